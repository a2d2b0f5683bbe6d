/-
 Walks of the functions. Printed by gen.py.
-/
import Derived.Test.YtnloenhmkdpgeaaGreatDoorWalkA0
import Derived.Test.YtnloenhmkdpgeaaGreatDoorWalkA1
import Derived.Test.YtnloenhmkdpgeaaGreatDoorWalkA2
import Derived.Test.YtnloenhmkdpgeaaGreatDoorWalkA3
import Derived.Test.YtnloenhmkdpgeaaGreatDoorWalkA4
import Derived.Test.YtnloenhmkdpgeaaGreatDoorWalkA5
import Derived.Test.YtnloenhmkdpgeaaGreatDoorWalkA6
set_option linter.unusedVariables false
set_option linter.unusedSectionVars false
set_option maxRecDepth 100000
namespace Go.Proofs.YtnloenhmkdpgeaaGreatDoor
set_option maxHeartbeats 4000000
open Go Go.Fk Go.RowKit Tryz
variable (F:Nat){w:World}{K:F9}{Z:List Nat}{g1 g2 g3:Nat}{A B C D G H I J O R S T:Option Addr}{a b c d f i k l m n o p q s v x y aa ab ac ad ae af ag:Nat}
variable [dr:Dr]

theorem R1 {q0:List E3}{q1:List E3}{r:Bool}(hS:SH w K [] w K [])(m:b7 Q0 K A a b q0)(C:b7 Q0 K B c d q1)(hm:M5 F q0 q1=some r):
  Calls prog 28 #[V3 A a b,V3 B c d] w (R_b w K r):=by
 rw [M5] at hm
 refine ci func28 rfl ntmps28 (sr (lv (O6 rfl) (O7 (mv rfl (lv (q9 underlying57 rfl m) (mv rfl (lv (q9 underlying57 rfl C) (lv (R2 rfl rfl) (nq ?_)))))))))
 refine R9 rfl (fun o=>?_) (fun o=>?_)
 ·have q:=a1a o hm
  refine sr (lv (O6 rfl) (nq (rr ?_)))
  cases oi q
  exact ey results28 ⟨K,rfl,hS⟩
 have q:=a09 o hm
 refine j3 (qs (sr (lv (N2 rfl) (nq ?_))))
 obtain⟨O,R,i⟩:=ob q
 refine l4 (IE O w K [] K [] []) ?_ ?_
 ·refine j7 ?_
  obtain⟨ap,S,D⟩:=ob R
  refine qw (fun (s:Int)=>IW w K [] K [(0,V3 A a b),(1,V3 B c d),(5,V6 s)] [] (i7 s)) S ⟨K,rfl,hS,kr,I5⟩ ?_
  rintro s _ aq ar T G ⟨U,rfl,H,f,au⟩
  refine o4 (sr (mv rfl (mv rfl (lv (q9 underlying57 rfl (m.mono f)) (lv (u7 rfl rfl) (nq (D5 T rfl (fun V x=>?_) (fun V x=>?_))))))))
  ·refine j3 (qs (j7 (o4 (D4 mixed (by kernel_rfl) H (km rfl (km rfl ?_))))))
   obtain⟨k,W,X⟩:=ob x
   refine ki underlying57 Q2 (m.mono f) W fun Y aa aw ab ac=>?_
   obtain⟨rfl,ax,ay⟩:=ab
   have ad:F1 _ Y aa [V6 k.Doc,V6 k.Points]:=ac
   refine kh (a1C Q2 rfl ad rfl) (km rfl (km rfl ?_))
   obtain⟨l,ae,af⟩:=ob X
   refine ki underlying57 Q2 (C.mono f) ae fun ag ah az ai aj=>?_
   obtain⟨rfl,aA,aB⟩:=ai
   have ak:F1 _ ag ah [V6 l.Doc,V6 l.Points]:=aj
   refine kh (a1C Q2 rfl ak rfl) (kv (c5a c39 rfl rfl (c4a k.Doc k.Points l.Doc l.Points)) (B4 ?_))
   rintro aC ⟨I,J,al⟩
   refine l5 (D5 af rfl (fun am y=>?_) (fun am y=>?_))
   ·refine sr (lv (O6 rfl) (nq (j9 (i9 (c9 (c9 ?_))))))
    cases oi y
    cases G _ rfl
    refine i9 (c9 ?_)
    cases oi D
    refine c9 ?_
    cases oi i
    exact ey results28 ⟨I,rfl,J⟩
   refine j3 (x8 (l5 (j5 (mv rfl (lv (y7 rfl rfl) (av rfl (i8 ?_)))))))
   cases oi y
   exact qd ⟨_,rfl,I,rfl,J,(f.trans al),(u0 _)⟩
  refine y4 (g8 (g8 ?_))
  cases oi x
  cases G _ rfl
  refine l6 ?_
  cases oi D
  exact L6 ⟨_,U,rfl,rfl,H,f⟩ trivial
 rintro _ aD ⟨aE,an,rfl,rfl,ao,aF⟩
 have i:=E9 i
 refine qr (lv (r_t rfl) (nq (j9 ?_)))
 cases oi i
 exact ey results28 ⟨an,rfl,ao⟩

theorem a51 {q0:Int}{q1:Int}{r:Int}(hS:SH w K [] w K [])(m:i7 q0)(o:i7 q1)(hm:X4 F q0 q1=some r):
  Calls prog 147 #[V6 q0,V6 q1] w (R_i w K r):=by
 rw [X4] at hm
 refine ci func147 rfl ntmps147 (sr (lv (N2 rfl) (nr (mv rfl ?_))))
 obtain⟨J,q,s⟩:=ob hm
 refine lk b82 (a3o F hS.enter0 m q) ?_
 rintro O R ⟨S,rfl,x⟩
 have l:=(hS.c0 x).t0
 refine av rfl (nr (mv rfl ?_))
 obtain⟨T,y,A⟩:=ob s
 refine lk b82 (a3o F l.enter0 o y) ?_
 rintro U V ⟨a,rfl,B⟩
 have b:=(l.c0 B).t0
 refine av rfl (O7 (mv rfl (nq (D5 A rfl (fun C c=>?_) (fun C c=>?_)))))
 ·refine o4 (sr (mv rfl (nq (D5 c rfl (fun D d=>?_) (fun D d=>?_)))))
  ·refine sr (lv (N2 rfl) (nq (rr (c9 ?_))))
   cases oi d
   exact ey results147 ⟨a,rfl,b,I5⟩
  refine j3 (qr (lv (u9 (v:=V6 (-1)) rfl) (nq (rr ?_))))
  cases oi d
  exact ey results147 ⟨a,rfl,b,(by decide :i7 (-1))⟩
 refine j3 (qs (sr (mv rfl (nq (D5 c rfl (fun G f=>?_) (fun G f=>?_))))))
 ·refine sr (lv (u9 (v:=V6 1) rfl) (nq (rr ?_)))
  cases oi f
  exact ey results147 ⟨a,rfl,b,(by decide :i7 1)⟩
 refine j3 (qs (sr (mv rfl (mv rfl (lv (u7 rfl rfl) (nq (D5 f rfl (fun H i=>?_) (fun H i=>?_))))))))
 ·refine sr (lv (u9 (v:=V6 (-1)) rfl) (nq (rr ?_)))
  cases oi i
  exact ey results147 ⟨a,rfl,b,(by decide :i7 (-1))⟩
 refine j3 (qs (sr (mv rfl (mv rfl (lv (E7 rfl rfl) (nq (D5 i rfl (fun I k=>?_) (fun I k=>?_))))))))
 ·refine sr (lv (u9 (v:=V6 1) rfl) (nq (rr ?_)))
  cases oi k
  exact ey results147 ⟨a,rfl,b,(by decide :i7 1)⟩
 refine j3 (qr (lv (N2 rfl) (nq (j9 ?_))))
 cases oi k
 exact ey results147 ⟨a,rfl,b,I5⟩

theorem a4U {q0:E3}{q1:E3}{r:Int}(hS:SH w K [] w K [])(y:i7 q0.Doc)(A:i7 q0.Points)(B:i7 q1.Doc)(C:i7 q1.Points)(hm:I0 F q0 q1=some r):
  Calls prog 104 #[.agg #[V6 q0.Doc,V6 q0.Points],.agg #[V6 q1.Doc,V6 q1.Points]] w (R_i w K r):=by
 rw [I0] at hm
 refine ci func104 rfl ntmps104 (sr (bx rfl hS fun o w6 D=>?_))
 have G:SH _ _ _ _ _ [s7 o [V6 q0.Doc,V6 q0.Points] 71]:=D
 refine bx rfl G fun q ac H=>?_
 have I:SH _ _ _ _ _ [s7 q [V6 q1.Doc,V6 q1.Points] 71,_]:=H
 refine lv (N2 rfl) (ns ?_)
 have a:=I.drew
 refine j_0 (fun w'=>H0 K w'∧B0 q [V6 q1.Doc,V6 q1.Points] w'∧B0 o [V6 q0.Doc,V6 q0.Points] w') 13 [] mixed ⟨a.hasK kr,a.hasObj m0,a.hasObj m1⟩ (jv 0 rfl (c7 a4O rfl) (jh 1 rfl (fun _ h=>B5 E6 rfl rfl h.2.1) (jv 2 rfl (c7 a4O rfl) (jh 3 rfl (fun _ h=>B5 E6 rfl rfl h.2.2) (jv 5 rfl (c7 a4N rfl) (jh 6 rfl (fun _ h=>B5 E6 rfl rfl h.2.2) (jv 7 rfl (c7 a4N rfl) (jh 8 rfl (fun _ h=>B5 E6 rfl rfl h.2.1) (j1 4 rfl ?_)))))))))
 obtain⟨b,J,O⟩:=ob hm
 refine lk c3V (a51 F a.enter0 C A J) ?_
 rintro ad ae ⟨af,rfl,c,R⟩
 have d:=(a.c0 c).t2
 refine P0 ⟨d.hasK c.le,d.hasObj m0,d.hasObj m1⟩ (j1 9 rfl ?_)
 obtain⟨f,S,T⟩:=ob O
 refine lk c3V (a51 F d.enter0 y B S) ?_
 rintro ag ah ⟨ai,rfl,k,U⟩
 have l:=(d.c0 k).t2
 refine P0 ⟨l.hasK (c.le.trans k.le),l.hasObj m0,l.hasObj m1⟩ (j1 10 rfl (J2 (t:=D6) (n:=2) (pv:=[(0,V6 b),(1,V6 f)]) (cs:=[V6 b,V6 f]) (xs:=[b,f]) wn rfl underlying46 E6 rfl rfl rfl (by kernel_rfl) rfl rfl (H5 (u:=V6 b) (z:=b) ⟨rfl,R⟩ (H5 (u:=V6 f) (z:=f) ⟨rfl,U⟩ a1W)) l fun aj ak al s V i=>(P0 ⟨i.hasK ((c.le.trans k.le).trans s),i.hasObj m1,i.hasObj m2⟩ (j1 11 rfl ?_))))
 obtain⟨am,W,X⟩:=ob T
 refine lk c3N (a9B F i.enter0 V W) ?_
 rintro an ao ⟨Y,rfl,x,aa⟩
 have m:=(i.c0 x).t3
 refine P0 ⟨m.hasK (((c.le.trans k.le).trans s).trans x.le),m.hasObj m1,m.hasObj m2⟩ (jv 12 rfl (u9 rfl) (jd (l5 (j9 ?_))))
 cases oi X
 exact ey results104 ⟨Y,rfl,m.s,aa⟩

theorem b0H {q0:List E3}{q1:Int}{r:(List E3)}(hS:SH w K [] w K [])(f:b7 Q0 K A a b q0)(al:i7 q1)(hm:a1l F q0 q1=some r):
  Calls prog 91 #[V3 A a b,V6 q1] w fun e w'=>∃a_1 n_2 c_3 K',e= .returned (V3 a_1 n_2 c_3)∧SH w K [] w' K' [tail (V3 a_1 n_2 c_3) 71 2]∧b7 Q0 K' a_1 n_2 c_3 r:=by
 rw [a1l] at hm
 refine ci func91 rfl ntmps91 (sr (lv (r_n rfl) (nr (b0 Q0 underlying57 Q2 hS fun a6 w7 K8 i k l=>(mv rfl ?_)))))
 obtain⟨ap,m,o⟩:=ob hm
 refine lp underlying57 Q2 k (f.mono i) m l fun q s B aq ar au C D=>(av rfl (nr (mv rfl ?_)))
 obtain⟨aw,G,H⟩:=ob o
 refine A3 wn rfl (A2 (vs:=[V3 q s B,.func (.func 104) #[] #[]]) c5L rfl) (c0M (T:=Q0) sortLay143 b7H rfl (fun w=>Go.Fk.a5P Q2 w) (fun w=>Go.Fk.T7 Q2 w) (fun a b=>I0 F a b) 104 (Go.Proofs.enters_of func104 (by kernel_rfl) rfl) D hS.holds (fun b hb=>by cases hb) C (fun _ _ _ _ _ h=>h) (fun K1 W v x u y r hW I J hm=>by
  obtain⟨rfl,O,R⟩:=I
  obtain⟨rfl,S,U⟩:=J
  exact(a4U (dr:=⟨True⟩) F (SH.start (dr:=⟨True⟩) hW) O R S U hm).mono fun e w' ⟨K',he,hS',_⟩=>⟨K',he,hS'⟩) G) ?_
 rintro ay az ⟨aA,rfl,V,c⟩
 refine⟨_,rfl,?_⟩
 refine nr (b0 Q0 underlying57 Q2 V fun aB aC aD d X Y=>(mv rfl (mv rfl (lv (q9 underlying57 rfl (c.mono d)) (mv rfl (lv (b9y rfl rfl) ?_))))))
 obtain⟨aE,aa,ab⟩:=ob H
 refine a7z (t:=Q0) wn rfl underlying57 Q2 rfl rfl (c.mono d) aa fun aF aG aH ac=>?_
 obtain⟨aI,ad,ae⟩:=ob ab
 refine lp underlying57 Q2 X ac ad Y fun af ag ah aJ ai aK aj ak=>(av rfl (nq (j9 ?_)))
 cases oi ae
 exact ey results91 ⟨af,ag,ah,ai,rfl,ak.s,aj⟩

theorem a0b {q0:u6}{q1:A5}{q2:q7}{q3:Int}{r:(List E3)}(hS:SH w K [] w K [])(R:b7 D9 K A a b q0.Stops)(S:b7 L0 K B c d q0.Syns)(T:b7 F6 K C f i q1.Docs)(U:b7 B8 K D k l q1.Entries)(V:i7 q2.Kind)(W:q2.Field.length≤maxLen)(X:b7 D9 K G m n q2.Words)(Y:i7 q2.From)(aa:i7 q2.To)(ab:b7 F4 K H o p q2.Kids)(I:i7 q3)(hG31:a4i y6 1 q G8 w)(hD: ¬dr.D)(hm:R3 F q0 q1 q2 q3=some r):
  Calls prog 30 #[.agg #[V3 A a b,V3 B c d],.agg #[V3 C f i,V3 D k l],.agg #[V6 q2.Kind,sv q2.Field,V3 G m n,V6 q2.From,V6 q2.To,V3 H o p],V6 q3] w fun e w'=>∃a_1 n_2 c_3 K',e= .returned (V3 a_1 n_2 c_3)∧SH w K [] w' K' [tail (V3 a_1 n_2 c_3) 71 2]∧b7 Q0 K' a_1 n_2 c_3 r:=by
 rw [R3] at hm
 refine ci func30 rfl ntmps30 (sr (bx rfl hS fun ac aH ad=>?_))
 have ae:SH _ _ _ _ _ [s7 ac [V3 A a b,V3 B c d] 26]:=ad
 refine bx rfl ae fun af aI ag=>?_
 have ah:SH _ _ _ _ _ [s7 af [V3 C f i,V3 D k l] 30,_]:=ag
 refine bx rfl ah fun ai aJ aj=>?_
 have J:SH _ _ _ _ _ [s7 ai [V6 q2.Kind,sv q2.Field,V3 G m n,V6 q2.From,V6 q2.To,V3 H o p] 35,_,_]:=aj
 refine lv (r_n rfl) (O7 (mv rfl ?_))
 obtain⟨aK,ak,al⟩:=ob hm
 refine lk a5x (E2 F J.enter0 I (by decide :i7 1) (by decide :i7 16) ak) ?_
 rintro aL aM ⟨aN,rfl,s⟩
 have x:=(J.c0 s).t3
 refine lv (A4 rfl) (nq (D5 al rfl (fun am y=>?_) (fun am y=>?_)))
 ·refine sr (b0 Q0 underlying57 Q2 x fun an aO ao aP ap aq=>(av rfl (nq (rr ?_))))
  cases oi y
  exact ey results30 ⟨an,0,0,ao,rfl,aq.s,ap⟩
 refine j3 (qr (lv (j6 (ds:=[V3 A a b,V3 B c d]) B9 rfl m2 x rfl rfl) (lv (j6 (ds:=[V3 C f i,V3 D k l]) C4 rfl m1 x rfl rfl) (lv (j6 (ds:=[V6 q2.Kind,sv q2.Field,V3 G m n,V6 q2.From,V6 q2.To,V3 H o p]) B1 rfl m0 x rfl rfl) ?_))))
 obtain⟨aQ,ar,au⟩:=ob y
 refine lk c6D (a8v F x.enter0 (R.mono s.le) (S.mono s.le) (T.mono s.le) (U.mono s.le) V W (X.mono s.le) Y aa (ab.mono s.le) (hG31.keep x) hD ar) ?_
 rintro aR aS ⟨aT,aU,aV,aW,rfl,aw,ax⟩
 have O:=(x.c0 aw).t4
 refine mv rfl ?_
 obtain⟨aX,ay,az⟩:=ob au
 refine lk c68 (b0H F O.enter0 ax I ay) ?_
 rintro aY aZ ⟨aA,aB,aC,aD,rfl,aE,aF⟩
 have aG:=(O.c0 aE).t5
 refine av rfl (nq (j9 ?_))
 cases oi az
 exact ey results30 ⟨aA,aB,aC,aD,rfl,aG.s,aF⟩

theorem a0V {q0:List UInt8}{r:u6×A5×q7×Int}(hS:SH w K [] w K [])(ai:b7 tU8 K A a b q0)(hm:P5 F q0=some r):
  Calls prog 36 #[V3 A a b] w fun e w'=>∃a_1 n_2 c_3 a_5 n_6 c_7 a_9 n_10 c_11 a_13 n_14 c_15 a_19 n_20 c_21 a_25 n_26 c_27 K',e= .returned (.tuple #[.agg #[V3 a_1 n_2 c_3,V3 a_5 n_6 c_7],.agg #[V3 a_9 n_10 c_11,V3 a_13 n_14 c_15],.agg #[V6 r.2.2.1.Kind,sv r.2.2.1.Field,V3 a_19 n_20 c_21,V6 r.2.2.1.From,V6 r.2.2.1.To,V3 a_25 n_26 c_27],V6 r.2.2.2])∧SH w K [] w' K' [tail (V3 a_1 n_2 c_3) 9 1,tail (V3 a_5 n_6 c_7) 144 2,tail (V3 a_13 n_14 c_15) 99 3,tail (V3 a_19 n_20 c_21) 9 1,tail (V3 a_25 n_26 c_27) 35 6]∧b7 D9 K' a_1 n_2 c_3 r.1.Stops∧b7 L0 K' a_5 n_6 c_7 r.1.Syns∧b7 F6 K' a_9 n_10 c_11 r.2.1.Docs∧b7 B8 K' a_13 n_14 c_15 r.2.1.Entries∧i7 r.2.2.1.Kind∧r.2.2.1.Field.length≤maxLen∧b7 D9 K' a_19 n_20 c_21 r.2.2.1.Words∧i7 r.2.2.1.From∧i7 r.2.2.1.To∧b7 F4 K' a_25 n_26 c_27 r.2.2.1.Kids∧i7 r.2.2.2:=by
 rw [P5] at hm
 refine ci func36 rfl ntmps36 (sr (al B9 hS fun g5 w6 ak=>?_))
 have am:SH _ _ _ _ _ [s7 g5 [V3 none 0 0,V3 none 0 0] 26]:=ak
 refine al C4 am fun g9 br ao=>?_
 have ap:SH _ _ _ _ _ [s7 g9 [V3 none 0 0,V3 none 0 0] 30,_]:=ao
 refine al B1 ap fun aq bs ar=>?_
 have ab:SH _ _ _ _ _ [s7 aq [V6 0,sv [],V3 none 0 0,V6 0,V6 0,V3 none 0 0] 35,_,_]:=ar
 refine lv (N2 rfl) (nr (mv rfl ?_))
 obtain⟨bu,au,aw⟩:=ob hm
 refine lk c1H (a2k F ab.enter0 ai au) ?_
 rintro bv bx ⟨bz,bA,bB,bC,bD,rfl,ax,ay,az⟩
 have ac:=(ab.c0 ax).t4
 refine av rfl (nr (mv rfl ?_))
 obtain⟨bE,aA,aB⟩:=ob aw
 refine lk c2Q (a2A F ac.e1 ay az aA) ?_
 rintro bF bG ⟨l,m,o,q,s,x,y,B,C,D,G,H,bH,bI,bJ,bK,rfl,aC,aD,aE,aF,aG,aH,aI⟩
 have aJ:=(ac.c1 aC).t7
 refine mv rfl (lv (y3 rfl rfl) (lv (y3 rfl rfl) (al B9 aJ fun ad bL aK=>?_)))
 have aL:SH _ _ _ _ _ [s7 ad [V3 none 0 0,V3 none 0 0] 26,_,_,_,_,_,_,_]:=aK
 refine al C4 aL fun ae bM aM=>?_
 have aN:SH _ _ _ _ _ [s7 ae [V3 none 0 0,V3 none 0 0] 30,_,_,_,_,_,_,_,_]:=aM
 refine lw [V3 l m o,V3 q s x] B9 aN.f1 fun bN aO=>(lw [V3 y B C,V3 D G H] C4 aO.f1 fun bO aP=>(nr (mv rfl ?_)))
 obtain⟨d,aQ,aR⟩:=ob aB
 have af:=aP.f5
 refine lk b4B (a3q F af.e1 aH aI (by decide :i7 3) aQ) ?_
 rintro bP bQ ⟨I,J,O,R,S,T,bR,bS,bT,aS,rfl,U,aT,aU,aV,aW,aX,aY,aZ,ba⟩
 have bb:=(af.c1 U).t11
 refine al B1 bb fun ag bU bc=>?_
 have bd:SH _ _ _ _ _ [s7 ag [V6 0,sv [],V3 none 0 0,V6 0,V6 0,V3 none 0 0] 35,_,_,_,_,_,_,_,_,_,_,_]:=bc
 refine lw [V6 d.1.Kind,sv d.1.Field,V3 I J O,V6 d.1.From,V6 d.1.To,V3 R S T] B1 bd fun bV be=>(ns ?_)
 have V:=be.drew
 refine wh1 (fun w'=>H0 aS w'∧B0 ad [V3 l m o,V3 q s x] w'∧B0 ae [V3 y B C,V3 D G H] w'∧B0 ag [V6 d.1.Kind,sv d.1.Field,V3 I J O,V6 d.1.From,V6 d.1.To,V3 R S T] w') (fun w'=>True) 10 [] mixed ⟨V.hasK kr,V.hasObj m5,V.hasObj m4,V.hasObj m0⟩ (fun _=>trivial) (gh (fun _ h=>A0 (ds:=[V3 l m o,V3 q s x]) B9 rfl rfl rfl h.2.1) (gh (fun _ h=>A0 (ds:=[V3 y B C,V3 D G H]) C4 rfl rfl rfl h.2.2.1) (gh (fun _ h=>A0 (ds:=[V6 d.1.Kind,sv d.1.Field,V3 I J O,V6 d.1.From,V6 d.1.To,V3 R S T]) B1 rfl rfl rfl h.2.2.2) (gt (i5 rfl) (gn ?_)))))
 refine J2 (t:=D6) (n:=6) (pv:=[(0,V6 1),(1,V6 2),(2,V6 3),(3,V6 16),(4,V6 0),(5,V6 17)]) (cs:=[V6 1,V6 2,V6 3,V6 16,V6 0,V6 17]) (xs:=[(1:Int),(2:Int),(3:Int),(16:Int),(0:Int),(17:Int)]) wn rfl underlying46 E6 rfl rfl rfl (by kernel_rfl) rfl rfl (H5 (u:=V6 1) (z:=(1:Int)) ⟨rfl,(by decide :i7 1)⟩ (H5 (u:=V6 2) (z:=(2:Int)) ⟨rfl,(by decide :i7 2)⟩ (H5 (u:=V6 3) (z:=(3:Int)) ⟨rfl,(by decide :i7 3)⟩ (H5 (u:=V6 16) (z:=(16:Int)) ⟨rfl,(by decide :i7 16)⟩ (H5 (u:=V6 0) (z:=(0:Int)) ⟨rfl,I5⟩ (H5 (u:=V6 17) (z:=(17:Int)) ⟨rfl,(by decide :i7 17)⟩ a1W)))))) V fun bW bX bY f bf W=>(i8 (qh ⟨W.hasK f,W.hasObj m6,W.hasObj m5,W.hasObj m1⟩ (fun _=>trivial) (gn ?_)))
 obtain⟨bZ,bg,bh⟩:=ob aR
 have ah:=W.f4
 refine lk c4z (a4z F ah.e1 (aZ.mono f) ba bf bg) ?_
 rintro ca cb ⟨cc,cd,ce,bi,rfl,i,bj,cf,cg⟩
 have X:SH _ _ _ _ _ [_,_,_,_,_,_,_,_,_,_,_,_,_]:=SH.call (Lin:=[_]) ah i
 refine i8 (qh ⟨X.hasK (f.trans i.le),X.hasObj m6,X.hasObj m5,X.hasObj m2⟩ (fun _=>trivial) (gn ?_))
 have bk:SH _ _ _ _ _ [_,_,_,_,_,_,_,_,_,_,_,_,_]:=SH.front (p:=[_,_,_,_,_,_,_,_,_,_,_,_]) X
 refine lw [V3 l m o,V3 q s x] B9 bk fun ch Y=>(i8 (qh ⟨Y.hasK (f.trans i.le),Y.hasObj m7,Y.hasObj m6,Y.hasObj m3⟩ (fun _=>trivial) (gn ?_)))
 have bl:SH _ _ _ _ _ [_,_,_,_,_,_,_,_,_,_,_,_,_]:=SH.front (p:=[_,_,_,_,_,_,_,_,_,_,_,_]) Y
 refine lw [V3 y B C,V3 D G H] C4 bl fun cj aa=>(i8 (qh ⟨aa.hasK (f.trans i.le),aa.hasObj m8,aa.hasObj m7,aa.hasObj m4⟩ (fun _=>trivial) (gn ?_)))
 have bm:SH _ _ _ _ _ [_,_,_,_,_,_,_,_,_,_,_,_,_]:=SH.front (p:=[_,_,_,_,_,_,_,_,_,_,_,_]) aa
 refine lw [V6 d.1.Kind,sv d.1.Field,V3 I J O,V6 d.1.From,V6 d.1.To,V3 R S T] B1 bm fun ck k=>(i8 (qh ⟨k.hasK (f.trans i.le),k.hasObj m9,k.hasObj m8,k.hasObj m5⟩ (fun _=>trivial) (gt (u9 rfl) (gd' (l5 (j9 ?_))))))
 cases oi bh
 have bn:SH _ _ _ _ _ [_,_,_,_,_,_,_,_,_,_,_,_,_]:=SH.front (p:=[_,_,_,_,_,_,_,_,_,_,_,_]) k.f7.f7
 have bo:SH _ _ _ _ _ [_,_,_,_,_,_,_,_,_,_,_,_,_]:=SH.front (p:=[_,_,_,_,_,_,_,_,_,_,_,_]) bn
 have bp:SH _ _ _ _ _ [_,_,_,_,_,_,_,_,_,_,_,_,_]:=SH.front (p:=[_,_,_,_,_,_,_,_,_,_,_,_]) bo
 exact S7 (vs:=[_,_,_,_]) results36 ⟨⟨_,_,rfl,B2 B9 (cs:=[V3 l m o,V3 q s x]) (fun j c e=>by rw [Nat.zero_add,k.mem_obj m2];exact e) (.inl ⟨rfl,rfl,rfl⟩)⟩,⟨_,_,rfl,B2 C4 (cs:=[V3 y B C,V3 D G H]) (fun j c e=>by rw [Nat.zero_add,k.mem_obj m1];exact e) (.inl ⟨rfl,rfl,rfl⟩)⟩,⟨_,_,rfl,B2 B1 (cs:=[V6 d.1.Kind,sv d.1.Field,V3 I J O,V6 d.1.From,V6 d.1.To,V3 R S T]) (fun j c e=>by rw [Nat.zero_add,k.mem_obj m0];exact e) (.inl ⟨rfl,rfl,rfl⟩)⟩,rfl,trivial⟩ ⟨l,m,o,q,s,x,y,B,C,D,G,H,I,J,O,R,S,T,bi,rfl,bp.s,(aD.mono ((U.le.trans f).trans i.le)),(aE.mono ((U.le.trans f).trans i.le)),(aF.mono ((U.le.trans f).trans i.le)),(aG.mono ((U.le.trans f).trans i.le)),aT,aU,(aV.mono (f.trans i.le)),aW,aX,(aY.mono (f.trans i.le)),bj⟩

theorem b2I {q0:E3}{q1:E3}{r:Bool}(hS:SH w K [] w K [])(q:i7 q0.Doc)(s:i7 q0.Points)(x:i7 q1.Doc)(y:i7 q1.Points)(hm:a2O F q0 q1=some r):
  Calls prog 105 #[.agg #[V6 q0.Doc,V6 q0.Points],.agg #[V6 q1.Doc,V6 q1.Points]] w (R_b w K r):=by
 rw [a2O] at hm
 refine ci func105 rfl ntmps105 (sr (bx rfl hS fun i A k=>?_))
 have l:SH _ _ _ _ _ [s7 i [V6 q0.Doc,V6 q0.Points] 71]:=k
 refine bx rfl l fun m B o=>?_
 have b:SH _ _ _ _ _ [s7 m [V6 q1.Doc,V6 q1.Points] 71,_]:=o
 refine lv (O6 rfl) (nr (fl a4O rfl E6 m1 b rfl (fl a4O rfl E6 m0 b rfl (lv (E7 rfl rfl) (mv rfl (bt hm (fun a d=>?_) (fun a d=>?_)))))))
 ·iterate 6 refine lu a ?_
  refine A8 (uu rfl rfl) rfl (A8 (uu rfl rfl) rfl (A8 (uu rfl rfl) rfl (A8 (uu rfl rfl) rfl (A8 (uu rfl rfl) rfl (lu a (lv (J6 rfl a rfl) (av rfl (nq (j9 ?_)))))))))
  cases oi d
  exact ey results105 ⟨K,rfl,b.s⟩
 refine lg a (c7 a4O rfl) (lg a (w8 E6 rfl m1 b rfl) (lg a (c7 a4O rfl) (lg a (w8 E6 rfl m0 b rfl) (lg a (A9 rfl rfl) (lg a (i5 rfl) (bt d (fun c f=>?_) (fun c f=>?_)))))))
 ·refine lg c (c7 a4N rfl) (lg c (w8 E6 rfl m1 b rfl) (lg c (c7 a4N rfl) (lg c (w8 E6 rfl m0 b rfl) (lg c (u7 rfl rfl) (lg a (n9 rfl c rfl) (lv (l9 rfl a rfl) (av rfl (nq (j9 ?_)))))))))
  cases oi f
  exact ey results105 ⟨K,rfl,b.s⟩
 iterate 5 refine lu c ?_
 refine lg a (L8 rfl c rfl) (lv (l9 rfl a rfl) (av rfl (nq (j9 ?_))))
 cases oi f
 exact ey results105 ⟨K,rfl,b.s⟩

theorem b2J {q0:List E3}{q1:E3}{q2:Int}{r:(List E3)}(hS:SH w K [] w K [])(f:b7 Q0 K A a b q0)(s:i7 q1.Doc)(x:i7 q1.Points)(bk:i7 q2)(hm:a2P F q0 q1 q2=some r):
  Calls prog 106 #[V3 A a b,.agg #[V6 q1.Doc,V6 q1.Points],V6 q2] w fun e w'=>∃a_1 n_2 c_3 K',e= .returned (V3 a_1 n_2 c_3)∧SH w K [] w' K' []∧b7 Q0 K' a_1 n_2 c_3 r:=by
 rw [a2P] at hm
 refine ci func106 rfl ntmps106 (sr (bx rfl hS fun d w9 T=>?_))
 have U:SH _ _ _ _ _ [s7 d [V6 q1.Doc,V6 q1.Points] 71]:=T
 refine lv (r_n rfl) (nr (lv (N2 rfl) (ns ?_)))
 obtain⟨y,V,W⟩:=ob hm
 refine l4 (IW w K [] K [(0,V3 A a b),(2,V6 q2),(4,pt d),(7,V6 y)] [s7 d [V6 q1.Doc,V6 q1.Points] 71] (i7 y)) ?_ ?_
 ·refine j7 ?_
  obtain⟨bm,X,Y⟩:=ob V
  refine qw (fun (i:Int)=>IW w K [] K [(0,V3 A a b),(2,V6 q2),(4,pt d),(7,V6 i)] [s7 d [V6 q1.Doc,V6 q1.Points] 71] (i7 i)) X ⟨K,rfl,U,kr,I5⟩ ?_
  rintro i _ bn bo aa ab ⟨ac,rfl,ad,k,ae⟩
  refine o4 (o4 ?_)
  obtain⟨af,ag,ah⟩:=ob aa
  refine l4 (IV w K [] ac [(0,V3 A a b),(2,V6 q2),(4,pt d),(7,V6 i),(20,.bool af)] [s7 d [V6 q1.Doc,V6 q1.Points] 71]) ?_ ?_
  ·refine D4 mixed (by kernel_rfl) ad (km rfl (km rfl (kv (q9 underlying57 rfl (f.mono k)) (kv (u7 rfl rfl) (km rfl (bt ag (fun c l=>?_) (fun c l=>?_)))))))
   ·refine kg c (i5 rfl) (kg c (i5 rfl) ?_)
    obtain⟨B,ai,aj⟩:=ob l
    refine C7 (t:=Q0) (wg rfl rfl c) rfl underlying57 Q2 rfl rfl (f.mono k) ai fun ak al bp am an=>?_
    obtain⟨rfl,ao,ap⟩:=am
    have aq:F1 _ ak al [V6 B.Doc,V6 B.Points]:=an
    refine kgh c (a1C Q2 rfl aq rfl) (kgh c (D8 (ds:=[V6 q1.Doc,V6 q1.Points]) Q2 rfl m0 rfl rfl) ?_)
    obtain⟨bq,ar,au⟩:=ob aj
    refine kcg c c5q (fun _ _ aw br=>(b2I F) aw.enter0 ao ap s x ar) (kv (n9 rfl c rfl) (B4 ?_))
    rintro bs ⟨ax,ay,az⟩
    cases oi au
    exact qd ⟨ax,rfl,ay,az⟩
   iterate 6 refine kn c ?_
   refine kv (L8 rfl c rfl) (B4 ?_)
   rintro bu ⟨aA,aB,aC⟩
   cases oi l
   exact qd ⟨aA,rfl,aB,aC⟩
  rintro _ bv ⟨C,rfl,D,G⟩
  refine l5 (D5 ah rfl (fun aD m=>?_) (fun aD m=>?_))
  ·refine j3 (l5 (j7 (j5 (mv rfl (lv (y7 rfl rfl) (av rfl (nb ?_)))))))
   cases oi m
   exact qd ⟨_,rfl,C,rfl,D,(k.trans G),(u0 _)⟩
  refine y4 (g8 (g8 ?_))
  cases oi m
  cases ab _ rfl
  refine l6 ?_
  cases oi Y
  exact qd ⟨C,rfl,D,(k.trans G),ae⟩
 rintro _ bz ⟨bA,rfl,aE,H,bB⟩
 refine qr (b0 Q0 underlying57 Q2 aE fun bC bD bE I aF aG=>(mv rfl (mv rfl ?_)))
 obtain⟨bF,aH,aI⟩:=ob W
 refine a7z (t:=Q0) wn rfl underlying57 Q2 rfl rfl (f.mono (H.trans I)) aH fun bG bH bI aJ=>?_
 obtain⟨bJ,aK,aL⟩:=ob aI
 refine lp underlying57 Q2 aF aJ aK aG fun bK bL bM bN bO aM aN J=>(av rfl (nr (mv rfl (lv (j6 (ds:=[V6 q1.Doc,V6 q1.Points]) Q2 rfl m1 J rfl rfl) (lb Q0 (.agg #[V6 q1.Doc,V6 q1.Points]) [V6 q1.Doc,V6 q1.Points] q1 underlying57 Q2 ⟨rfl,s,x⟩ J fun bP bQ bR O aO aP=>?_)))))
 obtain⟨bS,aQ,aR⟩:=ob aL
 refine lp underlying57 Q2 (aN.mono O) aO aQ aP.f1 fun bT bU bV bW bX aS aT aU=>(av rfl (nr (mv rfl (mv rfl (mv rfl ?_)))))
 obtain⟨bY,aV,aW⟩:=ob aR
 refine a9h (t:=Q0) wn rfl underlying57 Q2 rfl rfl (b7.mono ((((H.trans I).trans aM).trans O).trans aS) f) aV fun bZ ca cb aX=>?_
 obtain⟨cc,aY,aZ⟩:=ob aW
 refine lp underlying57 Q2 aT aX aY aU fun ba bb bc cd R ce o S=>(av rfl (O7 (mv rfl (lv (q9 underlying57 rfl o) (mv rfl (lv (E7 rfl rfl) (nq (D5 aZ rfl (fun bd q=>?_) (fun bd q=>?_)))))))))
 ·refine sr (mv rfl (mv rfl ?_))
  obtain⟨cf,be,bf⟩:=ob q
  refine a7z (t:=Q0) wn rfl underlying57 Q2 rfl rfl o be fun bg bh bi bj=>(av rfl (nq (rr ?_)))
  cases oi bf
  exact ey results106 ⟨bg,bh,bi,R,rfl,S.s,bj⟩
 refine j3 (qr (mv rfl (av rfl (nq (j9 ?_)))))
 cases oi q
 exact ey results106 ⟨ba,bb,bc,R,rfl,S.s,o⟩

theorem b3Q {q0:u6}{q1:A5}{q2:q7}{q3:Int}{r:(List E3)}(hS:SH w K [] w K [])(aj:b7 D9 K A a b q0.Stops)(ak:b7 L0 K B c d q0.Syns)(y:b7 F6 K C f i q1.Docs)(al:b7 B8 K D k l q1.Entries)(am:i7 q2.Kind)(an:q2.Field.length≤maxLen)(ao:b7 D9 K G m n q2.Words)(ap:i7 q2.From)(aq:i7 q2.To)(ar:b7 F4 K H o p q2.Kids)(az:i7 q3)(hm:a44 F q0 q1 q2 q3=some r):
  Calls prog 95 #[.agg #[V3 A a b,V3 B c d],.agg #[V3 C f i,V3 D k l],.agg #[V6 q2.Kind,sv q2.Field,V3 G m n,V6 q2.From,V6 q2.To,V3 H o p],V6 q3] w fun e w'=>∃a_1 n_2 c_3 K',e= .returned (V3 a_1 n_2 c_3)∧SH w K [] w' K' []∧b7 Q0 K' a_1 n_2 c_3 r:=by
 rw [a44] at hm
 refine ci func95 rfl ntmps95 (sr (bx rfl hS fun ab bN aA=>?_))
 have aB:SH _ _ _ _ _ [s7 ab [V3 A a b,V3 B c d] 26]:=aA
 refine bx rfl aB fun ac bO aC=>?_
 have aD:SH _ _ _ _ _ [s7 ac [V3 C f i,V3 D k l] 30,_]:=aC
 refine bx rfl aD fun ad bP aE=>?_
 have aF:SH _ _ _ _ _ [s7 ad [V6 q2.Kind,sv q2.Field,V3 G m n,V6 q2.From,V6 q2.To,V3 H o p] 35,_,_]:=aE
 refine lv (r_n rfl) (nr (b0 Q0 underlying57 Q2 aF fun aG bQ ae s aH aI=>(av rfl (O7 (lv (N2 rfl) (nq ?_))))))
 obtain⟨aJ,aK,aL⟩:=ob hm
 refine l4 (fun E' w'=>∃V W X I,E'=[(9,V3 V W X)]∧SH w K [] w' I []∧M0 ae I∧b7 Q0 I V W X aJ) ?_ ?_
 ·refine j7 ?_
  obtain⟨bR,aM,aN⟩:=ob aK
  have aO:=aI.f1.f2.f3.sb (sk (sk (sk (sd sz))))
  refine qw (fun (Y:(List E3)×Int) E' w'=>∃J O R S,E'=[(3,V6 q3),(4,pt ab),(5,pt ac),(6,pt ad),(9,V3 J O R),(10,V6 Y.2)]∧SH w K [] w' S [s7 ab [V3 A a b,V3 B c d] 26,s7 ac [V3 C f i,V3 D k l] 30,s7 ad [V6 q2.Kind,sv q2.Field,V3 G m n,V6 q2.From,V6 q2.To,V3 H o p] 35]∧M0 ae S∧b7 Q0 S J O R Y.1∧i7 Y.2) aM ⟨aG,0,0,ae,rfl,aO,kr,aH,I5⟩ ?_
  rintro Y _ bS bT aP aQ ⟨J,O,R,S,rfl,aa,q,af,bU⟩
  refine o4 (sr (mv rfl (fl L3 rfl a1b m1 aa rfl (lv (q9 underlying27 rfl (y.mono (s.trans q))) (lv (u7 rfl rfl) (nq (D5 aP rfl (fun aR ag=>?_) (fun aR ag=>?_))))))))
  ·refine j3 (qs (j7 (o4 (D4 mixed (by kernel_rfl) aa (kh (D8 (ds:=[V3 A a b,V3 B c d]) B9 rfl m0 rfl rfl) (kh (D8 (ds:=[V3 C f i,V3 D k l]) C4 rfl m1 rfl rfl) (kh (D8 (ds:=[V6 q2.Kind,sv q2.Field,V3 G m n,V6 q2.From,V6 q2.To,V3 H o p]) B1 rfl m2 rfl rfl) (kv (c7 L3 rfl) (kh (z6 a1b rfl m1 rfl) ?_)))))))))
   refine km rfl ?_
   obtain⟨aS,aT,aU⟩:=ob ag
   refine ki underlying27 E8 (y.mono (s.trans q)) aT fun aV aW bV aX aY=>?_
   obtain⟨aZ,ba,bb,bc,bd,be,rfl,au,bW,bX⟩:=aX
   have bf:F1 _ aV aW [V6 aS.Id,V3 aZ ba bb,V3 bc bd be]:=aY
   refine kv (c7 P6 rfl) (kh (C1 E6 rfl (bf 0 _ rfl)) ?_)
   obtain⟨aw,ax,bg⟩:=ob aU
   refine kd b78 (fun _ _ bh x=>(a1A F) bh.enter0 (aj.mono ((s.trans q).trans x)) (ak.mono ((s.trans q).trans x)) (y.mono ((s.trans q).trans x)) (al.mono ((s.trans q).trans x)) am an (ao.mono ((s.trans q).trans x)) ap aq (ar.mono ((s.trans q).trans x)) au ax) ?_
   obtain⟨_,_,_,⟨_,_,_,bi⟩,_⟩:=(a1A F) aa.enter0 (aj.mono (s.trans q)) (ak.mono (s.trans q)) (y.mono (s.trans q)) (al.mono (s.trans q)) am an (ao.mono (s.trans q)) ap aq (ar.mono (s.trans q)) au ax []
   refine kv (u9 rfl) (B4 ?_)
   rintro bY ⟨bj,T,U⟩
   refine qr (mv rfl (lv (E7 rfl rfl) (nq (D5 bg rfl (fun bk ah=>?_) (fun bk ah=>?_)))))
   ·refine j5 (mv rfl (fl L3 rfl a1b m1 T rfl (mv rfl ?_)))
    obtain⟨ai,bl,bm⟩:=ob ah
    refine li underlying27 E8 (y.mono ((s.trans q).trans U)) bl fun bn bo bZ bp bq=>?_
    obtain⟨br,bs,bu,bv,bz,bA,rfl,bB,ca,cb⟩:=bp
    have bC:F1 _ bn bo [V6 ai.Id,V3 br bs bu,V3 bv bz bA]:=bq
    refine fa P6 rfl (lv (y9 E6 rfl T (bC 0 _ rfl)) (mv rfl (lv (C3 (cs:=#[V6 ai.Id,V6 aw]) c3D Q2 rfl (by kernel_rfl)) (mv rfl ?_))))
    obtain⟨cc,bD,bE⟩:=ob bm
    refine lk c5r ((b2J F (q1:=(E3.mk ai.Id aw))) T.enter0 (af.mono U) bB bi az bD) ?_
    rintro cd ce ⟨bF,bG,bH,bI,rfl,ay,bJ⟩
    have bK:=(T.c0 ay).t3
    refine av rfl (nb (l5 (j5 (mv rfl (lv (y7 rfl rfl) (av rfl (i8 ?_)))))))
    cases oi bE
    exact qd ⟨_,rfl,bF,bG,bH,bI,rfl,bK,((q.trans U).trans ay.le),bJ,(u0 _)⟩
   refine j3 (x8 (l5 (j5 (mv rfl (lv (y7 rfl rfl) (av rfl (i8 ?_)))))))
   cases oi ah
   exact qd ⟨_,rfl,J,O,R,bj,rfl,T,(q.trans U),(af.mono U),(u0 _)⟩
  refine y4 (g8 (g8 ?_))
  cases oi ag
  cases aQ _ rfl
  refine l6 ?_
  cases oi aN
  exact qd ⟨J,O,R,S,rfl,aa.s,q,af⟩
 rintro _ cf ⟨V,W,X,I,rfl,bL,cg,bM⟩
 refine qr (mv rfl (av rfl (nq (j9 ?_))))
 cases oi aL
 exact ey results95 ⟨V,W,X,I,rfl,bL,bM⟩

theorem a0c {q0:u6}{q1:A5}{q2:q7}{q3:Int}{r:(List E3)}(hS:SH w K [] w K [])(aa:b7 D9 K A a b q0.Stops)(ab:b7 L0 K B c d q0.Syns)(ac:b7 F6 K C f i q1.Docs)(ad:b7 B8 K D k l q1.Entries)(ae:i7 q2.Kind)(af:q2.Field.length≤maxLen)(ag:b7 D9 K G m n q2.Words)(ah:i7 q2.From)(ai:i7 q2.To)(aj:b7 F4 K H o p q2.Kids)(ak:i7 q3)(hm:R5 F q0 q1 q2 q3=some r):
  Calls prog 37 #[.agg #[V3 A a b,V3 B c d],.agg #[V3 C f i,V3 D k l],.agg #[V6 q2.Kind,sv q2.Field,V3 G m n,V6 q2.From,V6 q2.To,V3 H o p],V6 q3] w fun e w'=>∃a_1 n_2 c_3 K',e= .returned (V3 a_1 n_2 c_3)∧SH w K [] w' K' []∧b7 Q0 K' a_1 n_2 c_3 r:=by
 rw [R5] at hm
 refine ci func37 rfl ntmps37 (sr (bx rfl hS fun R aS am=>?_))
 have an:SH _ _ _ _ _ [s7 R [V3 A a b,V3 B c d] 26]:=am
 refine bx rfl an fun S aT ao=>?_
 have ap:SH _ _ _ _ _ [s7 S [V3 C f i,V3 D k l] 30,_]:=ao
 refine bx rfl ap fun T aU aq=>?_
 have J:SH _ _ _ _ _ [s7 T [V6 q2.Kind,sv q2.Field,V3 G m n,V6 q2.From,V6 q2.To,V3 H o p] 35,_,_]:=aq
 refine lv (r_n rfl) (ns (o4 ?_))
 obtain⟨ar,au,aw⟩:=ob hm
 refine l4 (IV w K [] K [(3,V6 q3),(4,pt R),(5,pt S),(6,pt T),(22,.bool ar)] [s7 R [V3 A a b,V3 B c d] 26,s7 S [V3 C f i,V3 D k l] 30,s7 T [V6 q2.Kind,sv q2.Field,V3 G m n,V6 q2.From,V6 q2.To,V3 H o p] 35]) ?_ ?_
 ·refine j5 (lv (j6 (ds:=[V3 A a b,V3 B c d]) B9 rfl m2 J rfl rfl) (lv (j6 (ds:=[V3 C f i,V3 D k l]) C4 rfl m1 J rfl rfl) ?_))
  obtain⟨aV,ax,ay⟩:=ob au
  refine lk c2R (a5K F J.enter0 aa ab ac ad ax) ?_
  rintro aW aX ⟨az,rfl,x⟩
  have O:=(J.c0 x).t3
  refine lv (A4 rfl) (mv rfl (bt ay (fun q U=>?_) (fun q U=>?_)))
  ·refine lu q (lu q (lu q (lv (J6 rfl q rfl) (mv rfl (lu rfl (lu rfl (lu rfl (lv (J6 rfl rfl rfl) (i8 ?_)))))))))
   cases oi U
   exact qd ⟨az,rfl,O.f1.f2,x.le⟩
  refine lg q (j6 (ds:=[V6 q2.Kind,sv q2.Field,V3 G m n,V6 q2.From,V6 q2.To,V3 H o p]) B1 rfl m0 O rfl rfl) ?_
  obtain⟨aY,aA,aB⟩:=ob U
  refine A3 (wg rfl rfl q) rfl (A2 (vs:=[.agg #[V6 q2.Kind,sv q2.Field,V3 G m n,V6 q2.From,V6 q2.To,V3 H o p]]) c4x rfl) (a6E F O.enter0 ae af (ag.mono x.le) ah ai (aj.mono x.le) aA) ?_
  rintro aZ ba ⟨aC,rfl,V⟩
  refine⟨_,rfl,?_⟩
  have W:=(O.c0 V).t3
  refine lg q (A4 rfl) (lv (l9 rfl q rfl) (mv rfl (bt aB (fun s X=>?_) (fun s X=>?_))))
  ·refine lu s (lu s (lu s (lv (J6 rfl s rfl) (i8 ?_))))
   cases oi X
   exact qd ⟨aC,rfl,W.f1.f2,(x.le.trans V.le)⟩
  refine lg s (i5 rfl) ?_
  obtain⟨bb,aD,aE⟩:=ob X
  refine A3 (wg rfl rfl s) rfl (A2 (vs:=[V6 q3,V6 1,V6 16]) a7T rfl) (I9 F W.enter0 ak (by decide :i7 1) (by decide :i7 16) aD) ?_
  rintro bc bd ⟨aF,rfl,al⟩
  refine⟨_,rfl,?_⟩
  have aG:=(W.c0 al).t3
  refine lg s (A4 rfl) (lv (l9 rfl s rfl) (i8 ?_))
  cases oi aE
  exact qd ⟨aF,rfl,aG.f1.f2,((x.le.trans V.le).trans al.le)⟩
 rintro _ be ⟨aH,rfl,y,I⟩
 refine l5 (D5 aw rfl (fun aI Y=>?_) (fun aI Y=>?_))
 ·refine sr (lv (r_n rfl) (nq (rr ?_)))
  cases oi Y
  exact ey results37 ⟨none,0,0,aH,rfl,y.s,(b7.nil _ _)⟩
 refine j3 (qr (lv (j6 (ds:=[V3 A a b,V3 B c d]) B9 rfl m0 y rfl rfl) (lv (j6 (ds:=[V3 C f i,V3 D k l]) C4 rfl m1 y rfl rfl) (lv (j6 (ds:=[V6 q2.Kind,sv q2.Field,V3 G m n,V6 q2.From,V6 q2.To,V3 H o p]) B1 rfl m2 y rfl rfl) (mv rfl ?_)))))
 obtain⟨bf,aJ,aK⟩:=ob Y
 refine lk c69 (b3Q F y.enter0 (aa.mono I) (ab.mono I) (ac.mono I) (ad.mono I) ae af (ag.mono I) ah ai (aj.mono I) ak aJ) ?_
 rintro bg bh ⟨aL,aM,aN,aO,rfl,aP,aQ⟩
 have aR:=(y.c0 aP).t3
 refine av rfl (nq (j9 ?_))
 cases oi aK
 exact ey results37 ⟨aL,aM,aN,aO,rfl,aR.s,aQ⟩
end Go.Proofs.YtnloenhmkdpgeaaGreatDoor
