/-
 Walks of the functions. Printed by gen.py.
-/
import Derived.Test.YtnloenhmkdpgeaaGreatDoorModelLScoreNear
import Derived.Test.YtnloenhmkdpgeaaGreatDoorWalkA0
import Derived.Test.YtnloenhmkdpgeaaGreatDoorWalkA3
import Derived.Test.YtnloenhmkdpgeaaGreatDoorWalkA4
import Derived.Test.YtnloenhmkdpgeaaGreatDoorWalkFS
set_option linter.unusedVariables false
set_option linter.unusedSectionVars false
set_option maxRecDepth 100000
namespace Go.Proofs.YtnloenhmkdpgeaaGreatDoor
set_option maxHeartbeats 4000000
open Go Go.Fk Go.RowKit Tryz
variable (F:Nat){w:World}{K:F9}{Z:List Nat}{g1 g2 g3:Nat}{A B C D G H I J O R S T:Option Addr}{a b c d f i k l m n o p q s v x y aa ab ac ad ae af ag:Nat}
variable [dr:Dr]

theorem b0F {q0:A5}{q1:r4}{r:(List r4)}(hS:SH w K Z w K [s7 g1 [V3 A a b,V3 B c d] 30])(aM:b7 F6 K A a b q0.Docs)(C:b7 B8 K B c d q0.Entries)(aN:q1.length≤maxLen)(hm:a3h F q0 q1=some r):
  Calls prog 99 #[.pointer (some ⟨g1,0,none⟩),sv q1] w fun e w'=>∃a_1 n_2 c_3 K',e= .returned (V3 a_1 n_2 c_3)∧SH w K Z w' K' [tail (V3 a_1 n_2 c_3) 9 1,s7 g1 [V3 A a b,V3 B c d] 30]∧b7 D9 K' a_1 n_2 c_3 r:=by
 rw [a3h] at hm
 refine ci func99 rfl ntmps99 (sr (lv (r_n rfl) (nr (b0 D9 underlying23 G7 hS fun Y aO J D aa S=>(av rfl (O7 (mv rfl (lv (B7 rfl) (fl M2 rfl a1e m1 S rfl ?_)))))))))
 refine lv (q9 underlying28 rfl (C.mono D)) (lv (r_m rfl) (nq ?_))
 obtain⟨ab,ac,ad⟩:=ob hm
 refine l4 (fun E' w'=>∃o q s x,E'=[(0,pt g1),(5,V3 o q s)]∧SH w K Z w' x [s7 g1 [V3 A a b,V3 B c d] 30,tail (V3 o q s) 9 1]∧M0 J x∧b7 D9 x o q s ab) ?_ ?_
 ·refine j7 ?_
  obtain⟨aP,ae,af⟩:=ob ac
  refine qF (fun (T:Nat) (O:(List r4)) E' w'=>∃f i k l,E'=[(0,pt g1),(1,sv q1),(5,V3 f i k),(12,V3 B c d),(13,V6 (q0.Entries.length:Int)),(14,V6 ((T:Nat):Int))]∧SH w K Z w' l [s7 g1 [V3 A a b,V3 B c d] 30,tail (V3 f i k) 9 1]∧M0 J l∧b7 D9 l f i k O) ae ⟨Y,0,0,J,rfl,S.f1,kr,aa⟩ ?_ ?_
  ·rintro T O _ ag aQ hi43 ah ⟨f,i,k,l,rfl,G,y,H⟩
   refine sr (lv (u7 rfl rfl) (ns (C9 rfl (b8 (by omega)) (j3 (l5 (o4 (j7 (sr ?_))))))))
   obtain⟨m,ai,aj⟩:=ob ah
   refine li underlying28 P2 (C.mono (D.trans y)) ai fun ak am aR an ao=>?_
   obtain⟨U,V,W,rfl,aS,ap,aT⟩:=an
   have aq:F1 _ ak am [sv m.Field,sv m.Term,V3 U V W]:=ao
   refine lv (F3 P2 rfl G aq rfl) (al P2 G fun ar aU au=>?_)
   have aw:SH _ _ _ _ _ [s7 ar [sv [],sv [],V3 none 0 0] 99,_,_]:=au
   refine lw [sv m.Field,sv m.Term,V3 U V W] P2 aw fun aV I=>(nr (fl a3z rfl G7 m0 I rfl (mv rfl (lv (J8 rfl rfl) (nq (D5 aj rfl (fun ax R=>?_) (fun ax R=>?_)))))))
   ·refine j5 (mv rfl (fl a21 rfl G7 m0 I rfl (lb D9 (sv m.Term) [sv m.Term] m.Term underlying23 G7 ⟨rfl,ap⟩ I fun aW aX aY X ay az=>?_)))
    obtain⟨aZ,aA,aB⟩:=ob R
    refine lp underlying23 G7 (H.mono X) ay aA az.f3 fun aC aD aE ba aF aG aH aI=>(av rfl (nb (qg (lv (B6 rfl rfl (C6 hi43 (b7.max (C.mono D)))) (mv rfl (i8 ?_))))))
    cases oi aB
    exact qd ⟨aC,aD,aE,aF,rfl,aI.f3.s,((y.trans X).trans aG),aH⟩
   refine j3 (x8 (qg (lv (B6 rfl rfl (C6 hi43 (b7.max (C.mono D)))) (mv rfl (i8 ?_)))))
   cases oi R
   exact qd ⟨f,i,k,l,rfl,I.s,y,H⟩
  rintro O _ ag aJ ⟨f,i,k,l,rfl,G,y,H⟩
  subst aJ
  refine sr (lv (u7 rfl rfl) (ns (C8 rfl (c6 (by omega)) (y4 (g8 (g8 (l6 ?_)))))))
  cases oi af
  exact qd ⟨f,i,k,l,rfl,G,y,H⟩
 rintro _ bb ⟨o,q,s,x,rfl,aK,bc,aL⟩
 refine qr (mv rfl (av rfl (nq (j9 ?_))))
 cases oi ad
 exact ey results99 ⟨o,q,s,x,rfl,aK.f1,aL⟩

theorem b1u {q0:u6}{q1:A5}{q2:r4}{r:(List r4)}(hS:SH w K [] w K [])(G:b7 D9 K A a b q0.Stops)(H:b7 L0 K B c d q0.Syns)(x:b7 F6 K C f i q1.Docs)(y:b7 B8 K D k l q1.Entries)(I:q2.length≤maxLen)(hm:a12 F q0 q1 q2=some r):
  Calls prog 42 #[.agg #[V3 A a b,V3 B c d],.agg #[V3 C f i,V3 D k l],sv q2] w fun e w'=>∃a_1 n_2 c_3 K',e= .returned (V3 a_1 n_2 c_3)∧SH w K [] w' K' [tail (V3 a_1 n_2 c_3) 9 1]∧b7 D9 K' a_1 n_2 c_3 r:=by
 rw [a12] at hm
 refine ci func42 rfl ntmps42 (sr (bx rfl hS fun J al O=>?_))
 have R:SH _ _ _ _ _ [s7 J [V3 A a b,V3 B c d] 26]:=O
 refine bx rfl R fun S am T=>?_
 have m:SH _ _ _ _ _ [s7 S [V3 C f i,V3 D k l] 30,_]:=T
 refine lv (r_n rfl) (O7 (lv (j6 (ds:=[V3 A a b,V3 B c d]) B9 rfl m1 m rfl rfl) (lv (j6 (ds:=[V3 C f i,V3 D k l]) C4 rfl m0 m rfl rfl) ?_)))
 obtain⟨an,U,V⟩:=ob hm
 refine lk a9k (J1 F m.enter0 G H x y U) ?_
 rintro ao ap ⟨aq,rfl,o⟩
 have q:=(m.c0 o).t2
 refine lv (A4 rfl) (nq (D5 V rfl (fun W s=>?_) (fun W s=>?_)))
 ·refine sr (b0 D9 underlying23 G7 q fun X ar Y au aa ab=>(av rfl (nq (rr ?_))))
  cases oi s
  exact ey results42 ⟨X,0,0,Y,rfl,ab.s,aa⟩
 refine j3 (qr (mv rfl ?_))
 obtain⟨aw,ac,ad⟩:=ob s
 refine lk c4E (b0F F q.e1 (x.mono o.le) (y.mono o.le) I ac) ?_
 rintro ax ay ⟨ae,af,ag,ah,rfl,ai,aj⟩
 have ak:=(q.c1 ai).t3
 refine av rfl (nq (j9 ?_))
 cases oi ad
 exact ey results42 ⟨ae,af,ag,ah,rfl,ak.s,aj⟩

theorem a7M {q0:z7}{r:r4×z7}(hS:SH w K Z w K [s7 g1 [V3 A a b,V6 q0.p_] 141])(d:b7 tU8 K A a b q0.b_)(f:i7 q0.p_)(hm:a1r F q0=some r):
  Calls prog 98 #[.pointer (some ⟨g1,0,none⟩)] w fun e w'=>∃a_2 n_3 c_4 K',e= .returned (sv r.1)∧SH w K Z w' K' [s7 g1 [V3 a_2 n_3 c_4,V6 r.2.p_] 141]∧r.1.length≤maxLen∧b7 tU8 K' a_2 n_3 c_4 r.2.b_∧i7 r.2.p_:=by
 rw [a1r] at hm
 refine ci func98 rfl ntmps98 (sr (lv (r_s rfl) (nr (mv rfl (bw [[99,97,116],[99,97,116,115],[99,97,114],[99,97,114,116],[100,111,103],[116,97,112],[116,111,112,115],[97,98,99,100,101,102,103,104,105,106,107,108],[97],[97,99,97,116]] underlying23 G7 hS fun I J O i k l=>?_)))))
 obtain⟨R,m,o⟩:=ob hm
 have c:=l.f1
 refine lk b2o (J4 F c.e1 (d.mono i) f k m) ?_
 rintro S T ⟨q,s,x,y,rfl,B,C,D,G⟩
 have H:=(c.c1 B).t2
 refine av rfl (nq (j9 ?_))
 cases oi o
 exact ey results98 ⟨q,s,x,y,rfl,H.s,C,D,G⟩

theorem a9q {q0:List UInt8}{r:r4×r4}(hS:SH w K [] w K [])(l:b7 tU8 K A a b q0)(hm:a0o F q0=some r):
  Calls prog 47 #[V3 A a b] w fun e w'=>∃K',e= .returned (.tuple #[sv r.1,sv r.2])∧SH w K [] w' K' []∧r.1.length≤maxLen∧r.2.length≤maxLen:=by
 rw [a0o] at hm
 refine ci func47 rfl ntmps47 (sr (lv (r_s rfl) (lv (r_s rfl) (nr (mv rfl ?_)))))
 obtain⟨r5,m,o⟩:=ob hm
 refine lk c1H (a2k F hS.enter0 l m) ?_
 rintro ac w9 ⟨ae,af,ag,ah,K8,rfl,q,s,x⟩
 have f:=(hS.c0 q).t1
 refine av rfl (nr (mv rfl ?_))
 obtain⟨aj,y,B⟩:=ob o
 refine lk c6F (a7M F f.e1 s x y) ?_
 rintro ak al ⟨am,an,ao,ap,rfl,C,i,D,G⟩
 have k:=(f.c1 C).t1
 refine av rfl (O7 (mv rfl ?_))
 obtain⟨aq,H,I⟩:=ob B
 refine lk a4r (A6 F k.e1 D G (by decide :i7 10) H) ?_
 rintro ar au ⟨aw,ax,ay,J,rfl,O,az,R,S⟩
 have c:=(k.c1 O).t1
 refine lv (A9 rfl rfl) (nq (D5 I rfl (fun T d=>?_) (fun T d=>?_)))
 ·refine sr (mv rfl (av rfl (lv (u9 (v:=sv [67,97,116]) rfl) (nq (rr ?_)))))
  cases oi d
  exact S7 (vs:=[_,_]) results47 ⟨rfl,rfl,trivial⟩ ⟨J,rfl,c.s,i,(by decide :([67,97,116]:r4).length≤maxLen)⟩
 refine j3 (qr (mv rfl (mv rfl ?_)))
 obtain⟨aA,U,V⟩:=ob d
 refine lk c6F (a7M F c.e1 R S U) ?_
 rintro aB aC ⟨aD,aE,aF,W,rfl,X,Y,aG,aH⟩
 have aa:=(c.c1 X).t1
 refine av rfl (av rfl (nq (j9 ?_)))
 cases oi V
 exact S7 (vs:=[_,_]) results47 ⟨rfl,rfl,trivial⟩ ⟨W,rfl,aa.s,i,Y⟩

theorem b5X {q0:List F7}{q1:Int}{r:(List Int)}(hS:SH w K [] w K [])(i:b7 S2 K A a b q0)(an:i7 q1)(hm:a5m F q0 q1=some r):
  Calls prog 44 #[V3 A a b,V6 q1] w fun e w'=>∃a_1 n_2 c_3 K',e= .returned (V3 a_1 n_2 c_3)∧SH w K [] w' K' []∧b7 D6 K' a_1 n_2 c_3 r:=by
 rw [a5m] at hm
 refine ci func44 rfl ntmps44 (sr (lv (r_n rfl) (O7 (lv (N2 rfl) (nq ?_)))))
 obtain⟨C,D,f⟩:=ob hm
 refine l4 (IE C w K [] K [] []) ?_ ?_
 ·refine j7 ?_
  obtain⟨ao,G,q⟩:=ob D
  refine qw (fun (k:Int)=>IW w K [] K [(0,V3 A a b),(1,V6 q1),(5,V6 k)] [] (i7 k)) G ⟨K,rfl,hS,kr,I5⟩ ?_
  rintro k _ ap aq H s ⟨l,rfl,c,d,ar⟩
  refine o4 (sr (mv rfl (mv rfl (lv (q9 underlying37 rfl (i.mono d)) (lv (u7 rfl rfl) (nq (D5 H rfl (fun I m=>?_) (fun I m=>?_))))))))
  ·refine j3 (qs (j7 (sr (mv rfl (mv rfl ?_)))))
   obtain⟨J,O,R⟩:=ob m
   refine li underlying37 a02 (i.mono d) O fun S T au U V=>?_
   obtain⟨W,X,Y,rfl,aw,ax⟩:=U
   have aa:F1 _ S T [V6 J.Doc,V3 W X Y]:=V
   refine fa a5U rfl (lv (y9 E6 rfl c (aa 0 _ rfl)) (mv rfl (lv (A9 rfl rfl) (nq (D5 R rfl (fun ab o=>?_) (fun ab o=>?_))))))
   ·refine sr (mv rfl (mv rfl ?_))
    obtain⟨ac,ad,ae⟩:=ob o
    refine li underlying37 a02 (i.mono d) ad fun af ag ay ah ai=>?_
    obtain⟨x,y,B,rfl,az,aj⟩:=ah
    have ak:F1 _ af ag [V6 ac.Doc,V3 x y B]:=ai
    refine fa a4M rfl (lv (y9 a1g rfl c (ak 1 _ rfl)) (av rfl (nq (j9 (i9 (c9 (c9 ?_)))))))
    cases oi ae
    cases s _ rfl
    refine i9 (c9 ?_)
    cases oi q
    refine c9 ?_
    cases oi f
    exact ey results44 ⟨x,y,B,l,rfl,c,aj⟩
   refine j3 (x8 (l5 (j5 (mv rfl (lv (y7 rfl rfl) (av rfl (i8 ?_)))))))
   cases oi o
   exact qd ⟨_,rfl,l,rfl,c,d,(u0 _)⟩
  refine y4 (g8 (g8 ?_))
  cases oi m
  cases s _ rfl
  refine l6 ?_
  cases oi q
  exact L6 ⟨_,l,rfl,rfl,c,d⟩ trivial
 rintro _ aA ⟨s9,al,rfl,rfl,am,aC⟩
 have f:=E9 f
 refine qr (lv (r_n rfl) (nq (j9 ?_)))
 cases oi f
 exact ey results44 ⟨none,0,0,al,rfl,am,(b7.nil _ _)⟩

theorem a61 {q0:u6}{q1:A5}{q2:r4}{q3:r4}{q4:Int}{r:Int}(hS:SH w K [] w K [])(S:b7 D9 K A a b q0.Stops)(T:b7 L0 K B c d q0.Syns)(x:b7 F6 K C f i q1.Docs)(U:b7 B8 K D k l q1.Entries)(V:q2.length≤maxLen)(aW:q3.length≤maxLen)(aw:i7 q4)(hm:a17 F q0 q1 q2 q3 q4=some r):
  Calls prog 49 #[.agg #[V3 A a b,V3 B c d],.agg #[V3 C f i,V3 D k l],sv q2,sv q3,V6 q4] w (R_i w K r):=by
 rw [a17] at hm
 refine ci func49 rfl ntmps49 (sr (bx rfl hS fun G cm aX=>?_))
 have aY:SH _ _ _ _ _ [s7 G [V3 A a b,V3 B c d] 26]:=aX
 refine bx rfl aY fun H cn aZ=>?_
 have af:SH _ _ _ _ _ [s7 H [V3 C f i,V3 D k l] 30,_]:=aZ
 refine lv (N2 rfl) (nr (lv (j6 (ds:=[V3 A a b,V3 B c d]) B9 rfl m1 af rfl rfl) (lv (j6 (ds:=[V3 C f i,V3 D k l]) C4 rfl m0 af rfl rfl) (mv rfl (mv rfl ?_)))))
 obtain⟨cp,ba,bb⟩:=ob hm
 refine lk c59 (a60 F af.enter0 S T x U V aW ba) ?_
 rintro cq cr ⟨aF,aG,aH,cs,rfl,o,W⟩
 have aI:=(af.c0 o).t3
 refine av rfl (nr (mv rfl (mv rfl ?_)))
 obtain⟨ct,bc,bd⟩:=ob bb
 refine lk c6X (b5X F aI.enter0 W aw bc) ?_
 rintro cu cv ⟨aJ,aK,aL,ag,rfl,m,X⟩
 have aM:=(aI.c0 m).t3
 refine av rfl (O7 (mv rfl (lv (q9 underlying46 rfl X) (lv (A9 rfl rfl) (nq (D5 bd rfl (fun be ax=>?_) (fun be ax=>?_)))))))
 ·refine sr (lv (N2 rfl) (nq (rr ?_)))
  cases oi ax
  exact ey results49 ⟨ag,rfl,aM.s,I5⟩
 refine j3 (qr (lv (N2 rfl) (O7 (lv (N2 rfl) (nq ?_)))))
 obtain⟨aN,bf,bg⟩:=ob ax
 refine l4 (IW w K [] ag [(2,sv q2),(4,V6 q4),(5,pt G),(6,pt H),(11,V3 aF aG aH),(12,V3 aJ aK aL),(13,V6 aN)] [s7 G [V3 A a b,V3 B c d] 26,s7 H [V3 C f i,V3 D k l] 30] (i7 aN)) ?_ ?_
 ·refine j7 ?_
  obtain⟨cw,bh,bi⟩:=ob bf
  have bj:=aM.f1.f2.sb (sk (sk (sd sz)))
  refine qw (fun (Y:Int×Int)=>IW w K [] ag [(2,sv q2),(4,V6 q4),(5,pt G),(6,pt H),(11,V3 aF aG aH),(12,V3 aJ aK aL),(13,V6 Y.1),(14,V6 Y.2)] [s7 G [V3 A a b,V3 B c d] 26,s7 H [V3 C f i,V3 D k l] 30] (i7 Y.1∧i7 Y.2)) bh ⟨ag,rfl,bj,kr,I5,I5⟩ ?_
  rintro Y _ cx cy bk bl ⟨bm,rfl,ah,s,bn,cz⟩
  refine o4 (sr (mv rfl (fl L3 rfl a1b m1 ah rfl (lv (q9 underlying27 rfl (x.mono ((o.le.trans m.le).trans s))) (lv (u7 rfl rfl) (nq (D5 bk rfl (fun bo ay=>?_) (fun bo ay=>?_))))))))
  ·refine j3 (qs (j7 (D4 mixed (by kernel_rfl) ah (km rfl (kh (D8 (ds:=[V3 A a b,V3 B c d]) B9 rfl m0 rfl rfl) (kh (D8 (ds:=[V3 C f i,V3 D k l]) C4 rfl m1 rfl rfl) (km rfl (kv (c7 L3 rfl) (kh (z6 a1b rfl m1 rfl) ?_)))))))))
   refine km rfl ?_
   obtain⟨bp,bq,br⟩:=ob ay
   refine ki underlying27 E8 (x.mono ((o.le.trans m.le).trans s)) bq fun bs bu cA bv bz=>?_
   obtain⟨bA,bB,bC,bD,bE,bF,rfl,aO,cB,cC⟩:=bv
   have bG:F1 _ bs bu [V6 bp.Id,V3 bA bB bC,V3 bD bE bF]:=bz
   refine kv (c7 P6 rfl) (kh (C1 E6 rfl (bG 0 _ rfl)) ?_)
   obtain⟨cD,aP,bH⟩:=ob br
   refine kd b9T (fun _ _ bI ai=>(U3 F) bI.enter0 (b7.mono (((o.le.trans m.le).trans s).trans ai) S) (b7.mono (((o.le.trans m.le).trans s).trans ai) T) (b7.mono (((o.le.trans m.le).trans s).trans ai) x) (b7.mono (((o.le.trans m.le).trans s).trans ai) U) V aO aP) ?_
   obtain⟨_,_,_,⟨_,_,_,cE⟩,_⟩:=(U3 F) ah.enter0 (S.mono ((o.le.trans m.le).trans s)) (T.mono ((o.le.trans m.le).trans s)) (x.mono ((o.le.trans m.le).trans s)) (U.mono ((o.le.trans m.le).trans s)) V aO aP []
   refine kv (y7 rfl rfl) (kv (u9 rfl) (B4 ?_))
   rintro cF ⟨bJ,bK,bL⟩
   refine x8 (l5 (j5 (mv rfl (lv (y7 rfl rfl) (av rfl (i8 ?_))))))
   cases oi bH
   exact qd ⟨_,rfl,bJ,rfl,bK,(s.trans bL),(u0 _),(u0 _)⟩
  refine y4 (g8 (g8 ?_))
  cases oi ay
  cases bl _ rfl
  refine l6 ?_
  cases oi bi
  exact qd ⟨bm,rfl,ah,s,bn⟩
 rintro _ cG ⟨aQ,rfl,bM,q,az⟩
 refine qs ?_
 obtain⟨I,bN,bO⟩:=ob bg
 refine l4 (fun E' w'=>∃aA aB,E'=[(15,pt aA)]∧SH w K [] w' aB [s7 aA [V6 I.Up,V6 I.Down] 50]∧M0 aQ aB∧i7 I.Up∧i7 I.Down) ?_ ?_
 ·obtain⟨cH,aR,bP⟩:=ob bN
  obtain⟨J,aC,aD⟩:=ob bP
  have O:=bM.drew
  refine j_0 (fun w'=>H0 aQ w'∧B0 G [V3 A a b,V3 B c d] w'∧B0 H [V3 C f i,V3 D k l] w') 20 [] mixed ⟨O.hasK kr,O.hasObj m0,O.hasObj m1⟩ (jv 0 rfl (i5 rfl) (jv 1 rfl (q9 underlying46 rfl (X.mono q)) (jh 2 rfl (fun _ h=>A0 (ds:=[V3 A a b,V3 B c d]) B9 rfl rfl rfl h.2.1) (jh 3 rfl (fun _ h=>A0 (ds:=[V3 C f i,V3 D k l]) C4 rfl rfl rfl h.2.2) (jv 4 rfl (i5 rfl) (jv 5 rfl (i5 rfl) (jv 7 rfl (i5 rfl) (jv 8 rfl (c7 L3 rfl) (jh 9 rfl (fun _ h=>B5 a1b rfl rfl h.2.2) ?_)))))))))
  refine jv 10 rfl (q9 underlying27 rfl (x.mono ((o.le.trans m.le).trans q))) (jv 11 rfl (i5 rfl) (jv 12 rfl (q9 underlying37 rfl (W.mono (m.le.trans q))) (j2 6 17 rfl rfl ?_ ?_)))
  ·refine lk b9T (U3 F O.enter0 (S.mono ((o.le.trans m.le).trans q)) (T.mono ((o.le.trans m.le).trans q)) (x.mono ((o.le.trans m.le).trans q)) (U.mono ((o.le.trans m.le).trans q)) V aw aR) ?_
   rintro cI cJ ⟨cK,rfl,y,aS⟩
   have R:=(O.c0 y).t2
   refine P0 ⟨R.hasK y.le,R.hasObj m0,R.hasObj m1⟩ (j2 13 17 rfl rfl ?_ ?_)
   ·refine lk b4z (M6 F R.enter0 (X.mono q).rn aS az (a0Z (b7.max (x.mono ((o.le.trans m.le).trans q)))) (W.mono (m.le.trans q)).rn aC) ?_
    rintro cL cM ⟨bQ,rfl,aa,bR,bS⟩
    have aj:=(R.c0 aa).t2
    refine P0 ⟨aj.hasK (y.le.trans aa.le),aj.hasObj m0,aj.hasObj m1⟩ (jv 14 rfl (i5 rfl) (jv 15 rfl (y3 rfl rfl) (jv 16 rfl (y3 rfl rfl) (j1 17 rfl (al V4 aj fun aT cN bT=>?_)))))
    have ak:SH _ _ _ _ _ [s7 aT [V6 0,V6 0] 50,_,_]:=bT
    refine P0 ⟨ak.hasK (y.le.trans aa.le),ak.hasObj m1,ak.hasObj m2⟩ (j1 18 rfl (lw [V6 J.1.Up,V6 J.1.Down] V4 ak fun cO am=>(P0 ⟨am.hasK (y.le.trans aa.le),am.hasObj m1,am.hasObj m2⟩ (jv 19 rfl (u9 rfl) (jd ?_)))))
    cases oi aD
    exact qd ⟨aT,bQ,rfl,am.s,(y.le.trans aa.le),bR,bS⟩
   refine al V4 R fun aU cP bU=>?_
   have ab:SH _ _ _ _ _ [s7 aU [V6 0,V6 0] 50,_,_]:=bU
   refine P0 ⟨ab.hasK y.le,ab.hasObj m1,ab.hasObj m2⟩ (j1 13 rfl (lk b4z (M6 F ab.enter0 (X.mono q).rn aS az (a0Z (b7.max (x.mono ((o.le.trans m.le).trans q)))) (W.mono (m.le.trans q)).rn aC) ?_))
   rintro cQ cR ⟨bV,rfl,an,bW,bX⟩
   have ao:=(ab.c0 an).t3
   refine P0 ⟨ao.hasK (y.le.trans an.le),ao.hasObj m1,ao.hasObj m2⟩ (jv 14 rfl (i5 rfl) (jv 15 rfl (y3 rfl rfl) (jv 16 rfl (y3 rfl rfl) (j1 18 rfl (lw [V6 J.1.Up,V6 J.1.Down] V4 ao fun cS ap=>(P0 ⟨ap.hasK (y.le.trans an.le),ap.hasObj m1,ap.hasObj m2⟩ (jv 19 rfl (u9 rfl) (jd ?_))))))))
   cases oi aD
   exact qd ⟨aU,bV,rfl,ap.s,(y.le.trans an.le),bW,bX⟩
  refine al V4 O fun aV cT bY=>?_
  have ac:SH _ _ _ _ _ [s7 aV [V6 0,V6 0] 50,_,_]:=bY
  refine P0 ⟨ac.hasK kr,ac.hasObj m1,ac.hasObj m2⟩ (j1 6 rfl (lk b9T (U3 F ac.enter0 (S.mono ((o.le.trans m.le).trans q)) (T.mono ((o.le.trans m.le).trans q)) (x.mono ((o.le.trans m.le).trans q)) (U.mono ((o.le.trans m.le).trans q)) V aw aR) ?_))
  rintro cU cV ⟨cW,rfl,ad,bZ⟩
  have ae:=(ac.c0 ad).t3
  refine P0 ⟨ae.hasK ad.le,ae.hasObj m1,ae.hasObj m2⟩ (j1 13 rfl (lk b4z (M6 F ae.enter0 (X.mono q).rn bZ az (a0Z (b7.max (x.mono ((o.le.trans m.le).trans q)))) (W.mono (m.le.trans q)).rn aC) ?_))
  rintro cX cY ⟨ca,rfl,aq,cb,cc⟩
  have ar:=(ae.c0 aq).t3
  refine P0 ⟨ar.hasK (ad.le.trans aq.le),ar.hasObj m1,ar.hasObj m2⟩ (jv 14 rfl (i5 rfl) (jv 15 rfl (y3 rfl rfl) (jv 16 rfl (y3 rfl rfl) (j1 18 rfl (lw [V6 J.1.Up,V6 J.1.Down] V4 ar fun cZ au=>(P0 ⟨au.hasK (ad.le.trans aq.le),au.hasObj m1,au.hasObj m2⟩ (jv 19 rfl (u9 rfl) (jd ?_))))))))
  cases oi aD
  exact qd ⟨aV,ca,rfl,au.s,(ad.le.trans aq.le),cb,cc⟩
 rintro _ da ⟨aA,aB,rfl,aE,db,cd,ce⟩
 refine qr (lv (j6 (ds:=[V6 I.Up,V6 I.Down]) V4 rfl m0 aE rfl rfl) ?_)
 obtain⟨dc,cf,cg⟩:=ob bO
 refine lk c4u (a4T F aE.enter0 cd ce (by decide :i7 1000) cf) ?_
 rintro dd de ⟨ch,rfl,cj,ck⟩
 have cl:=(aE.c0 cj).t1
 refine av rfl (nq (j9 ?_))
 cases oi cg
 exact ey results49 ⟨ch,rfl,cl.s,ck⟩

theorem a9m {q0:List UInt8}{q1:List UInt8}{r:Bool}(hS:SH w K [] w K [])(aZ:b7 tU8 K A a b q0)(aG:b7 tU8 K B c d q1)(hG10:a4i y6 1 f G8 w)(hD: ¬dr.D)(hm:a1N F q0 q1=some r):
  Calls prog 11 #[V3 A a b,V3 B c d] w (R_b w K r):=by
 rw [a1N] at hm
 refine ci func11 rfl ntmps11 (sr (lv (O6 rfl) (ns (o4 ?_))))
 obtain⟨bx,bz,bA⟩:=ob hm
 refine l4 (IV w K [] K [(0,V3 A a b),(1,V3 B c d),(28,.bool bx)] []) ?_ ?_
 ·refine j5 (mv rfl (lv (q9 underlying22 rfl aZ) (lv (E7 rfl rfl) (mv rfl (bt bz (fun ae aH=>?_) (fun ae aH=>?_))))))
  ·refine lu ae (lu ae (lu ae (lv (J6 rfl ae rfl) (i8 ?_))))
   cases oi aH
   exact qd ⟨K,rfl,hS,kr⟩
  refine lg ae (i5 rfl) (lg ae (q9 underlying22 rfl aG) (lg ae (E7 rfl rfl) (lv (l9 rfl ae rfl) (i8 ?_))))
  cases oi aH
  exact qd ⟨K,rfl,hS,kr⟩
 rintro _ dC ⟨bB,rfl,aI,aJ⟩
 refine l5 (D5 bA rfl (fun bC aK=>?_) (fun bC aK=>?_))
 ·refine sr (lv (r_t rfl) (nq (rr ?_)))
  cases oi aK
  exact ey results11 ⟨bB,rfl,aI⟩
 refine j3 (qr (mv rfl ?_))
 obtain⟨s,bD,bE⟩:=ob aK
 refine lk c2N (a0U F aI.enter0 (aZ.mono aJ) bD) ?_
 rintro dD dE ⟨C,D,G,H,I,J,O,R,S,T,U,V,dF,rfl,aL,ai,aj,ab,ak,ap,dG⟩
 have bF:=(aI.c0 aL).t3
 refine mv rfl (lv (y3 rfl rfl) (lv (y3 rfl rfl) (lv (y3 rfl rfl) (lv (y3 rfl rfl) (al B9 bF fun X dH bG=>?_)))))
 have bH:SH _ _ _ _ _ [s7 X [V3 none 0 0,V3 none 0 0] 26,_,_,_]:=bG
 refine al C4 bH fun Y dI bI=>?_
 have bJ:SH _ _ _ _ _ [s7 Y [V3 none 0 0,V3 none 0 0] 30,_,_,_,_]:=bI
 refine lw [V3 C D G,V3 H I J] B9 bJ.f1 fun dJ bK=>(lw [V3 O R S,V3 T U V] C4 bK.f1 fun dK ba=>(av rfl (av rfl (nr (mv rfl ?_)))))
 obtain⟨ac,bL,bM⟩:=ob bE
 refine lk c6Z (a9q F ba.enter0 (aG.mono (aJ.trans aL.le)) bL) ?_
 rintro dL dM ⟨dN,rfl,i,bb,dO⟩
 have ax:=(ba.c0 i).t5
 refine mv rfl (lv (y3 rfl rfl) (lv (y3 rfl rfl) (av rfl (av rfl (O7 (lv (j6 (ds:=[V3 C D G,V3 H I J]) B9 rfl m1 ax rfl rfl) (lv (j6 (ds:=[V3 O R S,V3 T U V]) C4 rfl m0 ax rfl rfl) ?_)))))))
 obtain⟨dP,bN,bO⟩:=ob bM
 refine lk a9k (J1 F ax.enter0 (ai.mono i.le) (aj.mono i.le) (ab.mono i.le) (ak.mono i.le) bN) ?_
 rintro dQ dR ⟨dS,rfl,k⟩
 have bc:=(ax.c0 k).t5
 refine lv (A4 rfl) (nq (D5 bO rfl (fun bP aM=>?_) (fun bP aM=>?_)))
 ·refine o4 (D4 mixed (by kernel_rfl) bc (kh (D8 (ds:=[V3 C D G,V3 H I J]) B9 rfl m1 rfl rfl) (kh (D8 (ds:=[V3 O R S,V3 T U V]) C4 rfl m0 rfl rfl) ?_)))
  obtain⟨dT,bQ,bR⟩:=ob aM
  refine kc a9k (fun _ _ bS ay=>(J1 F) bS.enter0 (ai.mono ((i.le.trans k.le).trans ay)) (aj.mono ((i.le.trans k.le).trans ay)) (ab.mono ((i.le.trans k.le).trans ay)) (ak.mono ((i.le.trans k.le).trans ay)) bQ) (kh (D8 (ds:=[V3 C D G,V3 H I J]) B9 rfl m1 rfl rfl) (kh (D8 (ds:=[V3 O R S,V3 T U V]) C4 rfl m0 rfl rfl) ?_))
  obtain⟨dU,bT,bU⟩:=ob bR
  refine kc c2O (fun _ _ bV az=>(a5c F) bV.enter0 (ai.mono ((i.le.trans k.le).trans az)) (aj.mono ((i.le.trans k.le).trans az)) (ab.mono ((i.le.trans k.le).trans az)) (ak.mono ((i.le.trans k.le).trans az)) bT) (kv (b1J underlying4 rfl rfl) (kv (u9 rfl) (B4 ?_)))
  rintro dV ⟨bW,bX,dW⟩
  refine l5 (rr ?_)
  cases oi bU
  exact ey results11 ⟨bW,rfl,bX.s⟩
 refine j3 (qr (mv rfl (lv (q9 underlying22 rfl (b7.mono (((aJ.trans aL.le).trans i.le).trans k.le) aG)) ?_)))
 obtain⟨x,bY,bZ⟩:=ob aM
 refine lv (a8J rfl rfl bY) (lv (y7 rfl rfl) (av rfl (nr (mv rfl (mv rfl (lb D9 (sv ac.1) [sv ac.1] ac.1 underlying23 G7 ⟨rfl,bb⟩ bc fun af dX dY m bd ca=>(mv rfl (lv (C3 (cs:=#[V6 4,sv s.2.2.1,V3 af 1 1,V6 (z8 ((1:Int)+x)),V6 0,V3 none 0 0]) a7c B1 rfl (by kernel_rfl)) (al B1 ca fun aa dZ cb=>?_)))))))))
 have cc:SH _ _ _ _ _ [s7 aa [V6 0,sv [],V3 none 0 0,V6 0,V6 0,V3 none 0 0] 35,_,_,_,_,_,_]:=cb
 refine lw [V6 4,sv s.2.2.1,V3 af 1 1,V6 (z8 ((1:Int)+x)),V6 0,V3 none 0 0] B1 cc fun ea aA=>(nr (lv (j6 (ds:=[V3 C D G,V3 H I J]) B9 rfl m3 aA rfl rfl) (lv (j6 (ds:=[V3 O R S,V3 T U V]) C4 rfl m2 aA rfl rfl) (mv rfl ?_))))
 obtain⟨eb,cd,ce⟩:=ob bZ
 refine lk c6V (b1u F aA.enter0 (ai.mono ((i.le.trans k.le).trans m)) (aj.mono ((i.le.trans k.le).trans m)) (ab.mono ((i.le.trans k.le).trans m)) (ak.mono ((i.le.trans k.le).trans m)) ap cd) ?_
 rintro ec ed ⟨aq,ar,au,aN,rfl,o,aO⟩
 have cf:=(aA.c0 o).t8
 refine av rfl (O7 (lv (N2 rfl) (nq ?_)))
 obtain⟨cg,ch,aB⟩:=ob ce
 refine l4 (IE cg w K [] aN [] []) ?_ ?_
 ·refine j7 ?_
  obtain⟨ee,cj,be⟩:=ob ch
  have ck:=cf.f1.f3.f4.sb (sk (sk (sk (sd (sd (sd (sd (sd sz))))))))
  refine qw (fun (am:Int)=>IW w K [] aN [(5,pt X),(6,pt Y),(7,sv s.2.2.1),(9,sv ac.1),(11,V6 (z8 ((1:Int)+x))),(12,pt aa),(13,V3 aq ar au),(14,V6 am)] [s7 X [V3 C D G,V3 H I J] 26,s7 Y [V3 O R S,V3 T U V] 30,s7 aa [V6 4,sv s.2.2.1,V3 af 1 1,V6 (z8 ((1:Int)+x)),V6 0,V3 none 0 0] 35] (i7 am)) cj ⟨aN,rfl,ck,kr,I5⟩ ?_
  rintro am _ ef eg cl bf ⟨cm,rfl,ad,l,eh⟩
  refine o4 (sr (mv rfl (fl L3 rfl a1b m1 ad rfl (lv (q9 underlying27 rfl (b7.mono ((((i.le.trans k.le).trans m).trans o.le).trans l) ab)) (lv (u7 rfl rfl) (nq (D5 cl rfl (fun cn aP=>?_) (fun cn aP=>?_))))))))
  ·refine j3 (qs (j7 (sr (fl L3 rfl a1b m1 ad rfl (mv rfl ?_)))))
   obtain⟨aC,cp,cq⟩:=ob aP
   refine li underlying27 E8 (b7.mono ((((i.le.trans k.le).trans m).trans o.le).trans l) ab) cp fun cr ct ei cu cv=>?_
   obtain⟨cw,cx,cy,cz,cA,cB,rfl,aD,ej,ek⟩:=cu
   have cC:F1 _ cr ct [V6 aC.Id,V3 cw cx cy,V3 cz cA cB]:=cv
   refine fa P6 rfl (lv (y9 E6 rfl ad (cC 0 _ rfl)) (av rfl (nr (lv (j6 (ds:=[V3 C D G,V3 H I J]) B9 rfl m0 ad rfl rfl) (lv (j6 (ds:=[V3 O R S,V3 T U V]) C4 rfl m1 ad rfl rfl) (lv (j6 (ds:=[V6 4,sv s.2.2.1,V3 af 1 1,V6 (z8 ((1:Int)+x)),V6 0,V3 none 0 0]) B1 rfl m2 ad rfl rfl) (mv rfl ?_)))))))
   obtain⟨aQ,cD,cE⟩:=ob cq
   refine lk b6x ((P4 F (q2:=(q7.mk (4:Int) s.2.2.1 ([ac.1]:List r4) (z8 ((1:Int)+x)) (0:Int) ([]:List q7)))) ad.enter0 (b7.mono ((((i.le.trans k.le).trans m).trans o.le).trans l) ai) (b7.mono ((((i.le.trans k.le).trans m).trans o.le).trans l) aj) (b7.mono ((((i.le.trans k.le).trans m).trans o.le).trans l) ab) (b7.mono ((((i.le.trans k.le).trans m).trans o.le).trans l) ak) (by decide :i7 4) ap (bd.mono (o.le.trans l)) (u0 _) I5 (b7.nil _ _) aD (hG10.keep ad) hD cD) ?_
   rintro el em ⟨aR,rfl,q,en⟩
   have cF:=(ad.c0 q).t3
   refine av rfl (nr (lv (N2 rfl) (O7 (lv (N2 rfl) (nq ?_)))))
   obtain⟨bg,cG,cH⟩:=ob cE
   refine l4 (IW w K [] aR [(5,pt X),(6,pt Y),(7,sv s.2.2.1),(9,sv ac.1),(11,V6 (z8 ((1:Int)+x))),(12,pt aa),(13,V3 aq ar au),(14,V6 am),(15,V6 aC.Id),(16,V6 aQ),(17,V6 bg)] [s7 X [V3 C D G,V3 H I J] 26,s7 Y [V3 O R S,V3 T U V] 30,s7 aa [V6 4,sv s.2.2.1,V3 af 1 1,V6 (z8 ((1:Int)+x)),V6 0,V3 none 0 0] 35] (i7 bg)) ?_ ?_
   ·refine j7 ?_
    obtain⟨eo,cI,cJ⟩:=ob cG
    refine qw (fun (an:Int×Int)=>IW w K [] aR [(5,pt X),(6,pt Y),(7,sv s.2.2.1),(9,sv ac.1),(11,V6 (z8 ((1:Int)+x))),(12,pt aa),(13,V3 aq ar au),(14,V6 am),(15,V6 aC.Id),(16,V6 aQ),(17,V6 an.1),(18,V6 an.2)] [s7 X [V3 C D G,V3 H I J] 26,s7 Y [V3 O R S,V3 T U V] 30,s7 aa [V6 4,sv s.2.2.1,V3 af 1 1,V6 (z8 ((1:Int)+x)),V6 0,V3 none 0 0] 35] (i7 an.1∧i7 an.2)) cI ⟨aR,rfl,cF,kr,I5,I5⟩ ?_
    rintro an _ ep eq cK cL ⟨cM,rfl,aE,y,bh,es⟩
    refine o4 (sr (mv rfl (mv rfl (lv (q9 underlying23 rfl (aO.mono ((l.trans q.le).trans y))) (lv (u7 rfl rfl) (nq (D5 cK rfl (fun cN aS=>?_) (fun cN aS=>?_))))))))
    ·refine j3 (qs (j7 (sr (mv rfl (mv rfl ?_)))))
     obtain⟨cO,cP,cQ⟩:=ob aS
     refine li underlying23 G7 (aO.mono ((l.trans q.le).trans y)) cP fun cR cS et cT cU=>?_
     obtain⟨rfl,cV⟩:=cT
     have cW:F1 _ cR cS [sv cO]:=cU
     refine lv (y9 G7 rfl aE (cW 0 _ rfl)) (mv rfl ?_)
     obtain⟨eu,cX,cY⟩:=ob cQ
     refine lk c6y (a7F F aE.enter0 cV bb cX) ?_
     rintro ev ew ⟨ex,rfl,W,eA⟩
     have bi:=(aE.c0 W).t3
     refine av rfl (ns (D4 mixed (by kernel_rfl) bi (kh (D8 (ds:=[V3 C D G,V3 H I J]) B9 rfl m0 rfl rfl) (kh (D8 (ds:=[V3 O R S,V3 T U V]) C4 rfl m1 rfl rfl) (km rfl (km rfl (km rfl ?_)))))))
     obtain⟨cZ,da,db⟩:=ob cY
     refine ki underlying23 G7 (b7.mono (((l.trans q.le).trans y).trans W.le) aO) da fun dc dd eB de df=>?_
     obtain⟨rfl,bj⟩:=de
     have dg:F1 _ dc dd [sv cZ]:=df
     refine kh (C1 G7 rfl (dg 0 _ rfl)) (km rfl ?_)
     obtain⟨eC,bk,dh⟩:=ob db
     refine kd c60 (fun _ _ di aF=>(a61 F) di.enter0 (b7.mono ((((((((i.le.trans k.le).trans m).trans o.le).trans l).trans q.le).trans y).trans W.le).trans aF) ai) (b7.mono ((((((((i.le.trans k.le).trans m).trans o.le).trans l).trans q.le).trans y).trans W.le).trans aF) aj) (b7.mono ((((((((i.le.trans k.le).trans m).trans o.le).trans l).trans q.le).trans y).trans W.le).trans aF) ab) (b7.mono ((((((((i.le.trans k.le).trans m).trans o.le).trans l).trans q.le).trans y).trans W.le).trans aF) ak) ap bj aD bk) ?_
     obtain⟨_,_,_,⟨_,_,_,eD⟩,_⟩:=(a61 F) bi.enter0 (b7.mono (((((((i.le.trans k.le).trans m).trans o.le).trans l).trans q.le).trans y).trans W.le) ai) (b7.mono (((((((i.le.trans k.le).trans m).trans o.le).trans l).trans q.le).trans y).trans W.le) aj) (b7.mono (((((((i.le.trans k.le).trans m).trans o.le).trans l).trans q.le).trans y).trans W.le) ab) (b7.mono (((((((i.le.trans k.le).trans m).trans o.le).trans l).trans q.le).trans y).trans W.le) ak) ap bj aD bk []
     refine km rfl (kv (I6 rfl rfl) (kv (U4 rfl rfl) ?_))
     obtain⟨dj,bl,dk⟩:=ob dh
     refine kv (a4D rfl rfl bl) (kv (u9 rfl) (B4 ?_))
     rintro eE ⟨aT,bm,bn⟩
     refine qs ?_
     obtain⟨dl,dm,dn⟩:=ob dk
     refine l4 (IV w K [] aT [(5,pt X),(6,pt Y),(7,sv s.2.2.1),(9,sv ac.1),(11,V6 (z8 ((1:Int)+x))),(12,pt aa),(13,V3 aq ar au),(14,V6 am),(15,V6 aC.Id),(16,V6 aQ),(17,V6 an.1),(18,V6 an.2),(20,V6 dj),(115,.bool dl)] [s7 X [V3 C D G,V3 H I J] 26,s7 Y [V3 O R S,V3 T U V] 30,s7 aa [V6 4,sv s.2.2.1,V3 af 1 1,V6 (z8 ((1:Int)+x)),V6 0,V3 none 0 0] 35]) ?_ ?_
     ·refine j5 (mv rfl (mv rfl (lv (V2 rfl rfl) (mv rfl (bt dm (fun ag aU=>?_) (fun ag aU=>?_))))))
      ·refine lg ag (i5 rfl) (lg ag (i5 rfl) (lg ag (E7 rfl rfl) (lv (n9 rfl ag rfl) (i8 ?_))))
       cases oi aU
       exact qd ⟨aT,rfl,bm,kr⟩
      refine lu ag (lu ag (lu ag (lv (L8 rfl ag rfl) (i8 ?_))))
      cases oi aU
      exact qd ⟨aT,rfl,bm,kr⟩
     rintro _ eF ⟨bo,rfl,bp,bq⟩
     refine l5 (D5 dn rfl (fun dp aV=>?_) (fun dp aV=>?_))
     ·refine j5 (mv rfl (av rfl (nb (l5 (j5 (mv rfl (lv (y7 rfl rfl) (av rfl (i8 ?_)))))))))
      cases oi aV
      exact qd ⟨_,rfl,bo,rfl,bp,(((y.trans W.le).trans bn).trans bq),(a32 bl),(u0 _)⟩
     refine j3 (x8 (l5 (j5 (mv rfl (lv (y7 rfl rfl) (av rfl (i8 ?_)))))))
     cases oi aV
     exact qd ⟨_,rfl,bo,rfl,bp,(((y.trans W.le).trans bn).trans bq),bh,(u0 _)⟩
    refine y4 (g8 (g8 ?_))
    cases oi aS
    cases cL _ rfl
    refine l6 ?_
    cases oi cJ
    exact qd ⟨cM,rfl,aE,y,bh⟩
   rintro _ eG ⟨dq,rfl,aw,ao,eH⟩
   refine qs ?_
   obtain⟨dt,du,dv⟩:=ob cH
   refine l4 (IV w K [] dq [(5,pt X),(6,pt Y),(7,sv s.2.2.1),(9,sv ac.1),(11,V6 (z8 ((1:Int)+x))),(12,pt aa),(13,V3 aq ar au),(14,V6 am),(128,.bool dt)] [s7 X [V3 C D G,V3 H I J] 26,s7 Y [V3 O R S,V3 T U V] 30,s7 aa [V6 4,sv s.2.2.1,V3 af 1 1,V6 (z8 ((1:Int)+x)),V6 0,V3 none 0 0] 35]) ?_ ?_
   ·refine j5 (mv rfl (lv (j6 (ds:=[V3 C D G,V3 H I J]) B9 rfl m0 aw rfl rfl) (lv (j6 (ds:=[V3 O R S,V3 T U V]) C4 rfl m1 aw rfl rfl) (lv (j6 (ds:=[V6 4,sv s.2.2.1,V3 af 1 1,V6 (z8 ((1:Int)+x)),V6 0,V3 none 0 0]) B1 rfl m2 aw rfl rfl) (mv rfl ?_)))))
    obtain⟨eI,dw,dx⟩:=ob du
    refine lk c1E ((a0K F (q2:=(q7.mk (4:Int) s.2.2.1 ([ac.1]:List r4) (z8 ((1:Int)+x)) (0:Int) ([]:List q7)))) aw.enter0 (b7.mono ((((((i.le.trans k.le).trans m).trans o.le).trans l).trans q.le).trans ao) ai) (b7.mono ((((((i.le.trans k.le).trans m).trans o.le).trans l).trans q.le).trans ao) aj) (b7.mono ((((((i.le.trans k.le).trans m).trans o.le).trans l).trans q.le).trans ao) ab) (b7.mono ((((((i.le.trans k.le).trans m).trans o.le).trans l).trans q.le).trans ao) ak) (by decide :i7 4) ap (b7.mono (((o.le.trans l).trans q.le).trans ao) bd) (u0 _) I5 (b7.nil _ _) aD dw) ?_
    rintro eJ eK ⟨br,rfl,aW,eL⟩
    have bs:=(aw.c0 aW).t3
    refine lv (R2 rfl rfl) (mv rfl (bt dx (fun ah aX=>?_) (fun ah aX=>?_)))
    ·refine lu ah (lu ah (lu ah (lv (J6 rfl ah rfl) (i8 ?_))))
     cases oi aX
     exact qd ⟨br,rfl,bs,aW.le⟩
    refine lg ah (i5 rfl) (lg ah (i5 rfl) (lg ah (R2 rfl rfl) (lv (l9 rfl ah rfl) (i8 ?_))))
    cases oi aX
    exact qd ⟨br,rfl,bs,aW.le⟩
   rintro _ eM ⟨bu,rfl,bv,dy⟩
   refine l5 (D5 dv rfl (fun dz aY=>?_) (fun dz aY=>?_))
   ·refine sr (lv (O6 rfl) (nq (j9 (i9 (c9 (c9 ?_))))))
    cases oi aY
    cases bf _ rfl
    refine i9 (c9 ?_)
    cases oi be
    refine c9 ?_
    cases oi aB
    exact ey results11 ⟨bu,rfl,bv.s⟩
   refine j3 (x8 (l5 (j5 (mv rfl (lv (y7 rfl rfl) (av rfl (i8 ?_)))))))
   cases oi aY
   exact qd ⟨_,rfl,bu,rfl,bv,(((l.trans q.le).trans ao).trans dy),(u0 _)⟩
  refine y4 (g8 (g8 ?_))
  cases oi aP
  cases bf _ rfl
  refine l6 ?_
  cases oi be
  exact L6 ⟨_,cm,rfl,rfl,ad.s,l⟩ trivial
 rintro _ eN ⟨eO,dA,rfl,rfl,dB,eP⟩
 have aB:=E9 aB
 refine qr (lv (r_t rfl) (nq (j9 ?_)))
 cases oi aB
 exact ey results11 ⟨dA,rfl,dB⟩
end Go.Proofs.YtnloenhmkdpgeaaGreatDoor
