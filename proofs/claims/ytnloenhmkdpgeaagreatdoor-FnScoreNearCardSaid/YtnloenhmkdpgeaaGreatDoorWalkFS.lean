/-
 Walks of the functions. Printed by gen.py.
-/
import Derived.Test.YtnloenhmkdpgeaaGreatDoorWalkA0
import Derived.Test.YtnloenhmkdpgeaaGreatDoorWalkA2
import Derived.Test.YtnloenhmkdpgeaaGreatDoorWalkA3
import Derived.Test.YtnloenhmkdpgeaaGreatDoorWalkA4
import Derived.Test.YtnloenhmkdpgeaaGreatDoorWalkA5
import Derived.Test.YtnloenhmkdpgeaaGreatDoorWalkA6
set_option linter.unusedVariables false
set_option linter.unusedSectionVars false
set_option maxRecDepth 100000
namespace Go.Proofs.YtnloenhmkdpgeaaGreatDoor
set_option maxHeartbeats 4000000
open Go Go.Fk Go.RowKit Tryz
variable (F:Nat){w:World}{K:F9}{Z:List Nat}{g1 g2 g3:Nat}{A B C D G H I J O R S T:Option Addr}{a b c d f i k l m n o p q s v x y aa ab ac ad ae af ag:Nat}
variable [dr:Dr]

theorem a62 {q0:z7}{r:r4×z7}(hS:SH w K Z w K [s7 g1 [V3 A a b,V6 q0.p_] 141])(d:b7 tU8 K A a b q0.b_)(f:i7 q0.p_)(hm:a2a F q0=some r):
  Calls prog 57 #[.pointer (some ⟨g1,0,none⟩)] w fun e w'=>∃a_2 n_3 c_4 K',e= .returned (sv r.1)∧SH w K Z w' K' [s7 g1 [V3 a_2 n_3 c_4,V6 r.2.p_] 141]∧r.1.length≤maxLen∧b7 tU8 K' a_2 n_3 c_4 r.2.b_∧i7 r.2.p_:=by
 rw [a2a] at hm
 refine ci func57 rfl ntmps57 (sr (lv (r_s rfl) (nr (mv rfl (bw [[98,111,100,121],[98,111,100,121],[116,105,116,108,101],[110,111,110,101]] underlying23 G7 hS fun I J O i k l=>?_)))))
 obtain⟨R,m,o⟩:=ob hm
 have c:=l.f1
 refine lk b2o (J4 F c.e1 (d.mono i) f k m) ?_
 rintro S T ⟨q,s,x,y,rfl,B,C,D,G⟩
 have H:=(c.c1 B).t2
 refine av rfl (nq (j9 ?_))
 cases oi o
 exact ey results57 ⟨q,s,x,y,rfl,H.s,C,D,G⟩

theorem a0U {q0:List UInt8}{r:u6×A5×r4×r4}(hS:SH w K [] w K [])(aw:b7 tU8 K A a b q0)(hm:O1 F q0=some r):
  Calls prog 15 #[V3 A a b] w fun e w'=>∃a_1 n_2 c_3 a_5 n_6 c_7 a_9 n_10 c_11 a_13 n_14 c_15 K',e= .returned (.tuple #[.agg #[V3 a_1 n_2 c_3,V3 a_5 n_6 c_7],.agg #[V3 a_9 n_10 c_11,V3 a_13 n_14 c_15],sv r.2.2.1,sv r.2.2.2])∧SH w K [] w' K' [tail (V3 a_1 n_2 c_3) 9 1,tail (V3 a_5 n_6 c_7) 144 2,tail (V3 a_13 n_14 c_15) 99 3]∧b7 D9 K' a_1 n_2 c_3 r.1.Stops∧b7 L0 K' a_5 n_6 c_7 r.1.Syns∧b7 F6 K' a_9 n_10 c_11 r.2.1.Docs∧b7 B8 K' a_13 n_14 c_15 r.2.1.Entries∧r.2.2.1.length≤maxLen∧r.2.2.2.length≤maxLen:=by
 rw [O1] at hm
 refine ci func15 rfl ntmps15 (sr (al B9 hS fun g5 w6 ay=>?_))
 have az:SH _ _ _ _ _ [s7 g5 [V3 none 0 0,V3 none 0 0] 26]:=ay
 refine al C4 az fun g9 bg aB=>?_
 have ac:SH _ _ _ _ _ [s7 g9 [V3 none 0 0,V3 none 0 0] 30,_]:=aB
 refine lv (r_s rfl) (lv (r_s rfl) (nr (mv rfl ?_)))
 obtain⟨bh,aC,aD⟩:=ob hm
 refine lk c1H (a2k F ac.enter0 aw aC) ?_
 rintro bi bj ⟨bk,bl,bm,bn,bo,rfl,aE,aF,aG⟩
 have ad:=(ac.c0 aE).t3
 refine av rfl (nr (mv rfl ?_))
 obtain⟨bp,aH,aI⟩:=ob aD
 refine lk c2Q (a2A F ad.e1 aF aG aH) ?_
 rintro bq br ⟨k,l,m,o,q,s,x,y,B,C,D,G,bs,bu,bv,aJ,rfl,aK,ae,af,ag,ah,ai,aj⟩
 have aL:=(ad.c1 aK).t6
 refine mv rfl (lv (y3 rfl rfl) (lv (y3 rfl rfl) (al B9 aL fun ak bx aM=>?_)))
 have aN:SH _ _ _ _ _ [s7 ak [V3 none 0 0,V3 none 0 0] 26,_,_,_,_,_,_]:=aM
 refine al C4 aN fun am bz aO=>?_
 have aP:SH _ _ _ _ _ [s7 am [V3 none 0 0,V3 none 0 0] 30,_,_,_,_,_,_,_]:=aO
 refine lw [V3 k l m,V3 o q s] B9 aP.f1 fun bA aQ=>(lw [V3 x y B,V3 C D G] C4 aQ.f1 fun bB aR=>(ns ?_))
 obtain⟨bC,an,aS⟩:=ob aI
 obtain⟨bD,ao,ap⟩:=ob aS
 have S:=aR.drew
 refine j_0 (fun w'=>H0 aJ w'∧B0 ak [V3 k l m,V3 o q s] w'∧B0 am [V3 x y B,V3 C D G] w') 11 [] mixed ⟨S.hasK kr,S.hasObj m1,S.hasObj m0⟩ (jh 0 rfl (fun _ h=>A0 (ds:=[V3 k l m,V3 o q s]) B9 rfl rfl rfl h.2.1) (jh 1 rfl (fun _ h=>A0 (ds:=[V3 x y B,V3 C D G]) C4 rfl rfl rfl h.2.2) (jv 2 rfl (i5 rfl) (jv 4 rfl (i5 rfl) (j2 3 5 rfl rfl ?_ ?_)))))
 ·have aq:=S.f5
  refine lk c6z (a62 F aq.e1 ai aj an) ?_
  rintro bE bF ⟨bG,bH,bI,bJ,rfl,d,aT,aU,aV⟩
  have U:=(aq.c1 d).t8
  refine P0 ⟨U.hasK d.le,U.hasObj m2,U.hasObj m1⟩ (j1 5 rfl (bw [[99,97,116],[100,111,103],[114,117,110],[110,121],[110,101,119],[102,111,120],[122,122],[108,97,114,103]] underlying23 G7 U fun bK bL bM H aW V=>(P0 ⟨V.hasK (d.le.trans H),V.hasObj m3,V.hasObj m2⟩ (j1 6 rfl ?_))))
  have ar:=V.f1
  refine lk b2o (J4 F ar.e1 (aU.mono H) aV aW ao) ?_
  rintro bN bO ⟨bP,bQ,bR,aX,rfl,I,aY,bS,bT⟩
  have W:=(ar.c1 I).t9
  refine P0 ⟨W.hasK ((d.le.trans H).trans I.le),W.hasObj m3,W.hasObj m2⟩ (j1 7 rfl (lw [V3 k l m,V3 o q s] B9 W.f8 fun bU X=>(P0 ⟨X.hasK ((d.le.trans H).trans I.le),X.hasObj m4,X.hasObj m3⟩ (j1 8 rfl (lw [V3 x y B,V3 C D G] C4 X.f8 fun bV O=>(P0 ⟨O.hasK ((d.le.trans H).trans I.le),O.hasObj m5,O.hasObj m4⟩ (jv 9 rfl (u9 rfl) (jv 10 rfl (u9 rfl) (jd ?_)))))))))
  refine l5 (j9 ?_)
  cases oi ap
  exact S7 (vs:=[_,_,_,_]) results15 ⟨⟨_,_,rfl,B2 B9 (cs:=[V3 k l m,V3 o q s]) (fun j c e=>by rw [Nat.zero_add,O.mem_obj m1];exact e) (.inl ⟨rfl,rfl,rfl⟩)⟩,⟨_,_,rfl,B2 C4 (cs:=[V3 x y B,V3 C D G]) (fun j c e=>by rw [Nat.zero_add,O.mem_obj m0];exact e) (.inl ⟨rfl,rfl,rfl⟩)⟩,rfl,rfl,trivial⟩ ⟨k,l,m,o,q,s,x,y,B,C,D,G,aX,rfl,O.s,(ae.mono ((d.le.trans H).trans I.le)),(af.mono ((d.le.trans H).trans I.le)),(ag.mono ((d.le.trans H).trans I.le)),(ah.mono ((d.le.trans H).trans I.le)),aT,aY⟩
 refine bw [[99,97,116],[100,111,103],[114,117,110],[110,121],[110,101,119],[102,111,120],[122,122],[108,97,114,103]] underlying23 G7 S fun bW bX bY f aZ Y=>(P0 ⟨Y.hasK f,Y.hasObj m2,Y.hasObj m1⟩ (j1 3 rfl ?_))
 have au:=Y.f6
 refine lk c6z (a62 F au.e1 (ai.mono f) aj an) ?_
 rintro bZ ca ⟨cb,cc,cd,ce,rfl,i,ba,bb,bc⟩
 have T:=(au.c1 i).t9
 refine P0 ⟨T.hasK (f.trans i.le),T.hasObj m3,T.hasObj m2⟩ (j1 6 rfl (lk b2o (J4 F T.e1 bb bc (aZ.mono i.le) ao) ?_))
 rintro cf cg ⟨ch,cj,ck,bd,rfl,J,be,cl,cm⟩
 have aa:=(T.c1 J).t9
 refine P0 ⟨aa.hasK ((f.trans i.le).trans J.le),aa.hasObj m3,aa.hasObj m2⟩ (j1 7 rfl (lw [V3 k l m,V3 o q s] B9 aa.f8 fun cn ab=>(P0 ⟨ab.hasK ((f.trans i.le).trans J.le),ab.hasObj m4,ab.hasObj m3⟩ (j1 8 rfl (lw [V3 x y B,V3 C D G] C4 ab.f8 fun cp R=>(P0 ⟨R.hasK ((f.trans i.le).trans J.le),R.hasObj m5,R.hasObj m4⟩ (jv 9 rfl (u9 rfl) (jv 10 rfl (u9 rfl) (jd ?_)))))))))
 refine l5 (j9 ?_)
 cases oi ap
 exact S7 (vs:=[_,_,_,_]) results15 ⟨⟨_,_,rfl,B2 B9 (cs:=[V3 k l m,V3 o q s]) (fun j c e=>by rw [Nat.zero_add,R.mem_obj m1];exact e) (.inl ⟨rfl,rfl,rfl⟩)⟩,⟨_,_,rfl,B2 C4 (cs:=[V3 x y B,V3 C D G]) (fun j c e=>by rw [Nat.zero_add,R.mem_obj m0];exact e) (.inl ⟨rfl,rfl,rfl⟩)⟩,rfl,rfl,trivial⟩ ⟨k,l,m,o,q,s,x,y,B,C,D,G,bd,rfl,R.s,(ae.mono ((f.trans i.le).trans J.le)),(af.mono ((f.trans i.le).trans J.le)),(ag.mono ((f.trans i.le).trans J.le)),(ah.mono ((f.trans i.le).trans J.le)),ba,be⟩

theorem a5c {q0:u6}{q1:A5}{r:Bool}(hS:SH w K [] w K [])(o:b7 D9 K A a b q0.Stops)(q:b7 L0 K B c d q0.Syns)(s:b7 F6 K C f i q1.Docs)(x:b7 B8 K D k l q1.Entries)(hm:R4 F q0 q1=some r):
  Calls prog 17 #[.agg #[V3 A a b,V3 B c d],.agg #[V3 C f i,V3 D k l]] w (R_b w K r):=by
 rw [R4] at hm
 refine ci func17 rfl ntmps17 (sr (bx rfl hS fun y V G=>?_))
 have H:SH _ _ _ _ _ [s7 y [V3 A a b,V3 B c d] 26]:=G
 refine bx rfl H fun I W J=>?_
 have m:SH _ _ _ _ _ [s7 I [V3 C f i,V3 D k l] 30,_]:=J
 refine lv (O6 rfl) (nr (lv (j6 (ds:=[V3 A a b,V3 B c d]) B9 rfl m1 m rfl rfl) (lv (j6 (ds:=[V3 C f i,V3 D k l]) C4 rfl m0 m rfl rfl) ?_)))
 obtain⟨X,O,R⟩:=ob hm
 refine lk c2R (a5K F m.enter0 o q s x O) ?_
 rintro Y aa ⟨S,rfl,T⟩
 have U:=(m.c0 T).t2
 refine av rfl (nq (j9 ?_))
 cases oi R
 exact ey results17 ⟨S,rfl,U.s⟩

theorem b0D {q0:A5}{q1:r4}{q2:r4}{r:(List F7)}(hS:SH w K Z w K [s7 g1 [V3 A a b,V3 B c d] 30])(aw:b7 F6 K A a b q0.Docs)(C:b7 B8 K B c d q0.Entries)(ax:q1.length≤maxLen)(ay:q2.length≤maxLen)(hm:a0e F q0 q1 q2=some r):
  Calls prog 65 #[.pointer (some ⟨g1,0,none⟩),sv q1,sv q2] w fun e w'=>∃a_1 n_2 c_3 K',e= .returned (V3 a_1 n_2 c_3)∧SH w K Z w' K' [s7 g1 [V3 A a b,V3 B c d] 30]∧b7 S2 K' a_1 n_2 c_3 r:=by
 rw [a0e] at hm
 refine ci func65 rfl ntmps65 (sr (lv (r_n rfl) (O7 (mv rfl (lv (B7 rfl) (fl M2 rfl a1e m0 hS rfl (lv (q9 underlying28 rfl C) (lv (r_m rfl) (nq ?_)))))))))
 obtain⟨U,V,l⟩:=ob hm
 refine l4 (IE U w K Z K [(0,pt g1)] [s7 g1 [V3 A a b,V3 B c d] 30]) ?_ ?_
 ·refine j7 ?_
  obtain⟨az,W,O⟩:=ob V
  refine qf (fun (D:Nat) (R:Unit)=>IV w K Z K [(0,pt g1),(1,sv q1),(2,sv q2),(12,V3 B c d),(13,V6 (q0.Entries.length:Int)),(14,V6 ((D:Nat):Int))] [s7 g1 [V3 A a b,V3 B c d] 30]) W ⟨K,rfl,hS,kr⟩ ?_ ?_
  ·rintro D R _ X aA hi30 Y aa ⟨k,rfl,m,o⟩
   refine sr (lv (u7 rfl rfl) (ns (C9 rfl (b8 (by omega)) (j3 (l5 (o4 (j7 (sr ?_))))))))
   obtain⟨i,ab,ac⟩:=ob Y
   refine li underlying28 P2 (C.mono o) ab fun ad ae aB af ag=>?_
   obtain⟨q,s,x,rfl,aC,aD,ah⟩:=af
   have ai:F1 _ ad ae [sv i.Field,sv i.Term,V3 q s x]:=ag
   refine lv (F3 P2 rfl m ai rfl) (al P2 m fun G aE aj=>?_)
   have ak:SH _ _ _ _ _ [s7 G [sv [],sv [],V3 none 0 0] 99,_]:=aj
   refine lw [sv i.Field,sv i.Term,V3 q s x] P2 ak fun aF y=>(ns ?_)
   obtain⟨am,an,ao⟩:=ob ac
   refine l4 (IV w K Z k [(0,pt g1),(1,sv q1),(2,sv q2),(8,pt G),(12,V3 B c d),(13,V6 (q0.Entries.length:Int)),(14,V6 ((D:Nat):Int)),(27,.bool am)] [s7 g1 [V3 A a b,V3 B c d] 30,s7 G [sv i.Field,sv i.Term,V3 q s x] 99]) ?_ ?_
   ·refine j5 (fl a3z rfl G7 m0 y rfl (mv rfl (lv (J8 rfl rfl) (mv rfl (bt an (fun f H=>?_) (fun f H=>?_))))))
    ·refine lg f (c7 a21 rfl) (lg f (w8 G7 rfl m0 y rfl) (lg f (i5 rfl) (lg f (J8 rfl rfl) (lv (n9 rfl f rfl) (i8 ?_)))))
     cases oi H
     exact qd ⟨k,rfl,y.f1,kr⟩
    refine lu f (lu f (lu f (lu f (lv (L8 rfl f rfl) (i8 ?_)))))
    cases oi H
    exact qd ⟨k,rfl,y.f1,kr⟩
   rintro _ aG ⟨S,rfl,I,T⟩
   refine l5 (D5 ao rfl (fun ap J=>?_) (fun ap J=>?_))
   ·refine sr (fl Y0 rfl a5B m1 I rfl (av rfl (nq (j9 (i9 (c9 (c9 ?_)))))))
    cases oi J
    cases aa _ rfl
    refine i9 (c9 ?_)
    cases oi O
    refine c9 ?_
    cases oi l
    exact ey results65 ⟨q,s,x,S,rfl,I.s,(ah.mono T)⟩
   refine j3 (x8 (qg (lv (B6 rfl rfl (C6 hi30 (b7.max C))) (mv rfl (i8 ?_)))))
   cases oi J
   exact qd ⟨_,rfl,S,rfl,I.s,(o.trans T)⟩
  rintro R _ X aq ⟨k,rfl,m,o⟩
  subst aq
  refine sr (lv (u7 rfl rfl) (ns (C8 rfl (c6 (by omega)) (y4 (g8 (g8 (l6 ?_)))))))
  cases oi O
  exact qd ⟨_,k,rfl,rfl,m,o⟩
 rintro _ aH ⟨aI,ar,rfl,rfl,au,aJ⟩
 have l:=E9 l
 refine qr (lv (r_n rfl) (nq (j9 ?_)))
 cases oi l
 exact ey results65 ⟨none,0,0,ar,rfl,au,(b7.nil _ _)⟩

theorem a60 {q0:u6}{q1:A5}{q2:r4}{q3:r4}{r:(List F7)}(hS:SH w K [] w K [])(aC:b7 D9 K A a b q0.Stops)(aD:b7 L0 K B c d q0.Syns)(ap:b7 F6 K C f i q1.Docs)(aq:b7 B8 K D k l q1.Entries)(aE:q2.length≤maxLen)(aF:q3.length≤maxLen)(hm:a0G F q0 q1 q2 q3=some r):
  Calls prog 18 #[.agg #[V3 A a b,V3 B c d],.agg #[V3 C f i,V3 D k l],sv q2,sv q3] w fun e w'=>∃a_1 n_2 c_3 K',e= .returned (V3 a_1 n_2 c_3)∧SH w K [] w' K' [tail (V3 a_1 n_2 c_3) 48 2]∧b7 S2 K' a_1 n_2 c_3 r:=by
 rw [a0G] at hm
 refine ci func18 rfl ntmps18 (sr (bx rfl hS fun aG bL aH=>?_))
 have aI:SH _ _ _ _ _ [s7 aG [V3 A a b,V3 B c d] 26]:=aH
 refine bx rfl aI fun aJ bM aK=>?_
 have aL:SH _ _ _ _ _ [s7 aJ [V3 C f i,V3 D k l] 30,_]:=aK
 refine lv (r_n rfl) (nr (b0 S2 underlying37 a02 aL fun ar bN bO s au T=>(av rfl (O7 (lv (j6 (ds:=[V3 A a b,V3 B c d]) B9 rfl m2 T rfl rfl) (lv (j6 (ds:=[V3 C f i,V3 D k l]) C4 rfl m1 T rfl rfl) ?_))))))
 obtain⟨bP,aM,aN⟩:=ob hm
 refine lk a9k (J1 F T.enter0 (aC.mono s) (aD.mono s) (ap.mono s) (aq.mono s) aM) ?_
 rintro bQ bR ⟨aO,rfl,H⟩
 have aw:=(T.c0 H).t3
 refine lv (A4 rfl) (nq (D5 aN rfl (fun aP ab=>?_) (fun aP ab=>?_)))
 ·refine sr (mv rfl (av rfl (nq (rr ?_))))
  cases oi ab
  exact ey results18 ⟨ar,0,0,aO,rfl,aw.s,(au.mono H.le)⟩
 refine j3 (qs (sr (mv rfl (mv rfl ?_))))
 obtain⟨aQ,aR,aS⟩:=ob ab
 have ax:=aw.f1
 refine lk c1I (b0D F ax.e1 (ap.mono (s.trans H.le)) (aq.mono (s.trans H.le)) aE aF aR) ?_
 rintro bS bT ⟨aT,aU,aV,ac,rfl,ay,ad⟩
 have aW:=(ax.c1 ay).t3
 refine lv (q9 underlying37 rfl ad) (lv (r_m rfl) (nq ?_))
 obtain⟨aX,aY,aZ⟩:=ob aS
 refine l4 (fun E' w'=>∃I J O R,E'=[(9,V3 I J O)]∧SH w K [] w' R [tail (V3 I J O) 48 2]∧M0 ac R∧b7 S2 R I J O aX) ?_ ?_
 ·refine j7 ?_
  obtain⟨bU,ba,bb⟩:=ob aY
  have bc:=aW.sb (sd (sk (sd sz)))
  refine qF (fun (az:Nat) (ae:(List F7)) E' w'=>∃x y G m,E'=[(9,V3 x y G),(20,V3 aT aU aV),(21,V6 (aQ.length:Int)),(22,V6 ((az:Nat):Int))]∧SH w K [] w' m [tail (V3 x y G) 48 2]∧M0 ac m∧b7 S2 m x y G ae) ba ⟨ar,0,0,ac,rfl,bc,kr,(au.mono (H.le.trans ay.le))⟩ ?_ ?_
  ·rintro az ae _ bd bV hi83 be ⟨x,y,G,m,rfl,U,V,af⟩
   refine sr (lv (u7 rfl rfl) (ns (C9 rfl (b8 (by omega)) (j3 (l5 (o4 (j7 (sr ?_))))))))
   obtain⟨o,bf,bg⟩:=ob be
   refine li underlying37 a02 (ad.mono V) bf fun bh bi bW bj bk=>?_
   obtain⟨ag,ah,ai,rfl,bl,bm⟩:=bj
   have bn:F1 _ bh bi [V6 o.Doc,V3 ag ah ai]:=bk
   refine lv (F3 a02 rfl U bn rfl) (al a02 U fun aA bX bo=>?_)
   have bp:SH _ _ _ _ _ [s7 aA [V6 0,V3 none 0 0] 48,_]:=bo
   refine lw [V6 o.Doc,V3 ag ah ai] a02 bp fun bY bq=>(nq ?_)
   have aj:=bq.drew
   refine j_0 (fun w'=>H0 m w'∧B0 aA [V6 o.Doc,V3 ag ah ai] w') 11 [] mixed ⟨aj.hasK kr,aj.hasObj m0⟩ (jv 0 rfl (i5 rfl) (jv 1 rfl (c7 a5U rfl) (jh 2 rfl (fun _ h=>B5 E6 rfl rfl h.2) (jv 4 rfl (c7 a4M rfl) (jh 5 rfl (fun _ h=>B5 a1g rfl rfl h.2) (j1 3 rfl (b0 D6 underlying46 E6 aj fun bZ ca cb q br ak=>(P0 ⟨ak.hasK q,ak.hasObj m1⟩ (j1 6 rfl ?_)))))))))
   obtain⟨bs,bu,bv⟩:=ob bg
   refine lp underlying46 E6 br (bm.mono q) bu ak fun W X Y cc cd S bz am=>(P0 ⟨am.hasK (q.trans S),am.hasObj m1⟩ (jv 7 rfl (C3 (cs:=#[V6 o.Doc,V3 W X Y]) c5i a02 rfl (by kernel_rfl)) (j1 8 rfl (lb S2 (.agg #[V6 o.Doc,V3 W X Y]) [V6 o.Doc,V3 W X Y] (F7.mk o.Doc bs) underlying37 a02 ⟨W,X,Y,rfl,bl,bz⟩ am fun ce cf cg aa bA an=>(P0 ⟨an.hasK ((q.trans S).trans aa),an.hasObj m2⟩ (j1 9 rfl ?_))))))
   obtain⟨ch,bB,bC⟩:=ob bv
   refine lp underlying37 a02 (af.mono ((q.trans S).trans aa)) bA bB an.f3 fun bD bE bF cj bG aB bH ao=>(P0 ⟨ao.hasK (((q.trans S).trans aa).trans aB),ao.hasObj m3⟩ (jv 10 rfl (u9 rfl) (jd (x8 (qg (lv (B6 rfl rfl (C6 hi83 (b7.max ad))) (mv rfl (i8 ?_))))))))
   cases oi bC
   exact qd ⟨bD,bE,bF,bG,rfl,ao.s,((((V.trans q).trans S).trans aa).trans aB),bH⟩
  rintro ae _ bd bI ⟨x,y,G,m,rfl,U,V,af⟩
  subst bI
  refine sr (lv (u7 rfl rfl) (ns (C8 rfl (c6 (by omega)) (y4 (g8 (g8 (l6 ?_)))))))
  cases oi bb
  exact qd ⟨x,y,G,m,rfl,U,V,af⟩
 rintro _ ck ⟨I,J,O,R,rfl,bJ,cl,bK⟩
 refine qr (mv rfl (av rfl (nq (j9 ?_))))
 cases oi aZ
 exact ey results18 ⟨I,J,O,R,rfl,bJ,bK⟩

theorem b1v {q0:A5}{q1:u6}{q2:r4}{q3:Int}{r:Int}(hS:SH w K Z w K [s7 g1 [V3 A a b,V3 B c d] 30])(ab:b7 F6 K A a b q0.Docs)(ac:b7 B8 K B c d q0.Entries)(ad:b7 D9 K C f i q1.Stops)(ae:b7 L0 K D k l q1.Syns)(af:q2.length≤maxLen)(ag:i7 q3)(hm:U0 F q0 q1 q2 q3=some r):
  Calls prog 68 #[.pointer (some ⟨g1,0,none⟩),.agg #[V3 C f i,V3 D k l],sv q2,V6 q3] w fun e w'=>∃K',e= .returned (V6 r)∧SH w K Z w' K' [s7 g1 [V3 A a b,V3 B c d] 30]∧i7 r:=by
 rw [U0] at hm
 refine ci func68 rfl ntmps68 (sr (bx rfl hS fun T aC ah=>?_))
 have ai:SH _ _ _ _ _ [s7 T [V3 C f i,V3 D k l] 26,_]:=ah
 refine lv (N2 rfl) (nr (mv rfl (mv rfl ?_)))
 obtain⟨x,aj,ak⟩:=ob hm
 have U:=ai.f1
 refine lk c4w (a7G F U.e1 ab ac ag aj) ?_
 rintro aD aE ⟨y,G,H,I,J,O,V,rfl,R,am,an,ao⟩
 have ap:=(U.c1 R).t2
 refine mv rfl (lv (y3 rfl rfl) (lv (y3 rfl rfl) (al E8 ap fun W aF aq=>?_)))
 have ar:SH _ _ _ _ _ [s7 W [V6 0,V3 none 0 0,V3 none 0 0] 44,_,_]:=aq
 refine lw [V6 x.1.Id,V3 y G H,V3 I J O] E8 ar fun aG X=>(av rfl (O7 (mv rfl (lv (A4 rfl) (nq (D5 ak rfl (fun au S=>?_) (fun au S=>?_)))))))
 ·refine sr (lv (N2 rfl) (nq (rr ?_)))
  cases oi S
  exact ey results68 ⟨V,rfl,X.s,I5⟩
 refine j3 (qs ?_)
 have m:=X.drew
 refine wh1 (fun w'=>H0 V w'∧B0 T [V3 C f i,V3 D k l] w'∧B0 W [V6 x.1.Id,V3 y G H,V3 I J O] w') (fun w'=>True) 7 [] mixed ⟨m.hasK kr,m.hasObj m2,m.hasObj m0⟩ (fun _=>trivial) (gh (fun _ h=>A0 (ds:=[V3 C f i,V3 D k l]) B9 rfl rfl rfl h.2.1) (gh (fun _ h=>A0 (ds:=[V6 x.1.Id,V3 y G H,V3 I J O]) E8 rfl rfl rfl h.2.2) (gt (i5 rfl) (gn ?_))))
 obtain⟨aH,aw,ax⟩:=ob S
 refine lk c3R (a6Z F m.enter0 am an ao af aw) ?_
 rintro aI aJ ⟨aK,rfl,o,ay⟩
 have q:=(m.c0 o).t3
 refine i8 (qh ⟨q.hasK o.le,q.hasObj m2,q.hasObj m0⟩ (fun _=>trivial) (gn ?_))
 obtain⟨aL,az,aA⟩:=ob ax
 refine lk c1J (a2c F q.enter0 (ad.mono (R.le.trans o.le)) (ae.mono (R.le.trans o.le)) ay az) ?_
 rintro aM aN ⟨aO,aP,aQ,aB,rfl,Y,aa⟩
 have s:=(q.c0 Y).t4
 refine i8 (qh ⟨s.hasK (o.le.trans Y.le),s.hasObj m3,s.hasObj m1⟩ (fun _=>trivial) (gt (q9 underlying104 rfl aa) (gt (u9 rfl) (gd' (l5 (j9 ?_))))))
 cases oi aA
 exact ey results68 ⟨aB,rfl,s.s,aa.rn⟩

theorem U3 {q0:u6}{q1:A5}{q2:r4}{q3:Int}{r:Int}(hS:SH w K [] w K [])(x:b7 D9 K A a b q0.Stops)(y:b7 L0 K B c d q0.Syns)(G:b7 F6 K C f i q1.Docs)(H:b7 B8 K D k l q1.Entries)(I:q2.length≤maxLen)(J:i7 q3)(hm:N6 F q0 q1 q2 q3=some r):
  Calls prog 20 #[.agg #[V3 A a b,V3 B c d],.agg #[V3 C f i,V3 D k l],sv q2,V6 q3] w (R_i w K r):=by
 rw [N6] at hm
 refine ci func20 rfl ntmps20 (sr (bx rfl hS fun O ag R=>?_))
 have S:SH _ _ _ _ _ [s7 O [V3 A a b,V3 B c d] 26]:=R
 refine bx rfl S fun T ah U=>?_
 have o:SH _ _ _ _ _ [s7 T [V3 C f i,V3 D k l] 30,_]:=U
 refine lv (N2 rfl) (O7 (lv (j6 (ds:=[V3 A a b,V3 B c d]) B9 rfl m1 o rfl rfl) (lv (j6 (ds:=[V3 C f i,V3 D k l]) C4 rfl m0 o rfl rfl) ?_)))
 obtain⟨ai,V,W⟩:=ob hm
 refine lk a9k (J1 F o.enter0 x y G H V) ?_
 rintro aj ak ⟨X,rfl,m⟩
 have q:=(o.c0 m).t2
 refine lv (A4 rfl) (nq (D5 W rfl (fun Y s=>?_) (fun Y s=>?_)))
 ·refine sr (lv (u9 (v:=V6 (-1)) rfl) (nq (rr ?_)))
  cases oi s
  exact ey results20 ⟨X,rfl,q.s,(by decide :i7 (-1))⟩
 refine j3 (qr (lv (j6 (ds:=[V3 A a b,V3 B c d]) B9 rfl m1 q rfl rfl) (mv rfl (mv rfl ?_))))
 obtain⟨al,aa,ab⟩:=ob s
 refine lk c2S (b1v F q.e1 (G.mono m.le) (H.mono m.le) (x.mono m.le) (y.mono m.le) I J aa) ?_
 rintro am an ⟨ac,rfl,ad,ae⟩
 have af:=(q.c1 ad).t2
 refine av rfl (nq (j9 ?_))
 cases oi ab
 exact ey results20 ⟨ac,rfl,af.s,ae⟩

theorem a0K {q0:u6}{q1:A5}{q2:q7}{q3:Int}{r:Int}(hS:SH w K [] w K [])(ac:b7 D9 K A a b q0.Stops)(ad:b7 L0 K B c d q0.Syns)(T:b7 F6 K C f i q1.Docs)(U:b7 B8 K D k l q1.Entries)(ae:i7 q2.Kind)(af:q2.Field.length≤maxLen)(ag:b7 D9 K G m n q2.Words)(ah:i7 q2.From)(ai:i7 q2.To)(aj:b7 F4 K H o p q2.Kids)(ak:i7 q3)(hm:Q9 F q0 q1 q2 q3=some r):
  Calls prog 22 #[.agg #[V3 A a b,V3 B c d],.agg #[V3 C f i,V3 D k l],.agg #[V6 q2.Kind,sv q2.Field,V3 G m n,V6 q2.From,V6 q2.To,V3 H o p],V6 q3] w (R_i w K r):=by
 rw [Q9] at hm
 refine ci func22 rfl ntmps22 (sr (bx rfl hS fun V aP am=>?_))
 have an:SH _ _ _ _ _ [s7 V [V3 A a b,V3 B c d] 26]:=am
 refine bx rfl an fun W aQ ao=>?_
 have ap:SH _ _ _ _ _ [s7 W [V3 C f i,V3 D k l] 30,_]:=ao
 refine bx rfl ap fun X aR aq=>?_
 have O:SH _ _ _ _ _ [s7 X [V6 q2.Kind,sv q2.Field,V3 G m n,V6 q2.From,V6 q2.To,V3 H o p] 35,_,_]:=aq
 refine lv (N2 rfl) (ns (o4 ?_))
 obtain⟨ar,au,aw⟩:=ob hm
 refine l4 (IV w K [] K [(3,V6 q3),(4,pt V),(5,pt W),(6,pt X),(24,.bool ar)] [s7 V [V3 A a b,V3 B c d] 26,s7 W [V3 C f i,V3 D k l] 30,s7 X [V6 q2.Kind,sv q2.Field,V3 G m n,V6 q2.From,V6 q2.To,V3 H o p] 35]) ?_ ?_
 ·refine j5 (lv (j6 (ds:=[V3 A a b,V3 B c d]) B9 rfl m2 O rfl rfl) (lv (j6 (ds:=[V3 C f i,V3 D k l]) C4 rfl m1 O rfl rfl) ?_))
  obtain⟨aS,ax,ay⟩:=ob au
  refine lk c2R (a5K F O.enter0 ac ad T U ax) ?_
  rintro aT aU ⟨az,rfl,x⟩
  have R:=(O.c0 x).t3
  refine lv (A4 rfl) (mv rfl (bt ay (fun q Y=>?_) (fun q Y=>?_)))
  ·refine lu q (lu q (lu q (lv (J6 rfl q rfl) (mv rfl ?_))))
   iterate 5 refine lu rfl ?_
   refine lv (J6 rfl rfl rfl) (i8 ?_)
   cases oi Y
   exact qd ⟨az,rfl,R.f1.f2,x.le⟩
  refine lg q (j6 (ds:=[V6 q2.Kind,sv q2.Field,V3 G m n,V6 q2.From,V6 q2.To,V3 H o p]) B1 rfl m0 R rfl rfl) ?_
  obtain⟨aV,aA,aB⟩:=ob Y
  refine A3 (wg rfl rfl q) rfl (A2 (vs:=[.agg #[V6 q2.Kind,sv q2.Field,V3 G m n,V6 q2.From,V6 q2.To,V3 H o p]]) c4x rfl) (a6E F R.enter0 ae af (ag.mono x.le) ah ai (aj.mono x.le) aA) ?_
  rintro aW aX ⟨aC,rfl,J⟩
  refine⟨_,rfl,?_⟩
  have S:=(R.c0 J).t3
  refine lg q (A4 rfl) (lv (l9 rfl q rfl) (mv rfl (bt aB (fun s aa=>?_) (fun s aa=>?_))))
  ·iterate 5 refine lu s ?_
   refine lv (J6 rfl s rfl) (i8 ?_)
   cases oi aa
   exact qd ⟨aC,rfl,S.f1.f2,(x.le.trans J.le)⟩
  refine lg s (j6 (ds:=[V3 C f i,V3 D k l]) C4 rfl m1 S rfl rfl) (lg s (i5 rfl) ?_)
  obtain⟨aY,aD,aE⟩:=ob aa
  refine A3 (wg rfl rfl s) rfl (A2 (vs:=[.agg #[V3 C f i,V3 D k l],V6 q3]) c6B rfl) (a8y F S.enter0 (T.mono (x.le.trans J.le)) (U.mono (x.le.trans J.le)) ak aD) ?_
  rintro aZ ba ⟨bb,bc,bd,be,bf,bg,aF,rfl,al,bh,bi,bj⟩
  refine⟨_,rfl,?_⟩
  have aG:=(S.c0 al).t3
  refine lg s (b7s c4I E6 rfl (.inl ⟨rfl,rfl⟩)) (lg s (A9 rfl rfl) (lv (l9 rfl s rfl) (i8 ?_)))
  cases oi aE
  exact qd ⟨aF,rfl,aG.f1.f2,((x.le.trans J.le).trans al.le)⟩
 rintro _ bk ⟨aH,rfl,y,I⟩
 refine l5 (D5 aw rfl (fun aI ab=>?_) (fun aI ab=>?_))
 ·refine sr (lv (N2 rfl) (nq (rr ?_)))
  cases oi ab
  exact ey results22 ⟨aH,rfl,y.s,I5⟩
 refine j3 (qr (lv (j6 (ds:=[V3 A a b,V3 B c d]) B9 rfl m0 y rfl rfl) (lv (j6 (ds:=[V3 C f i,V3 D k l]) C4 rfl m1 y rfl rfl) (lv (j6 (ds:=[V6 q2.Kind,sv q2.Field,V3 G m n,V6 q2.From,V6 q2.To,V3 H o p]) B1 rfl m2 y rfl rfl) (mv rfl ?_)))))
 obtain⟨bl,aJ,aK⟩:=ob ab
 refine lk b78 (a1A F y.enter0 (ac.mono I) (ad.mono I) (T.mono I) (U.mono I) ae af (ag.mono I) ah ai (aj.mono I) ak aJ) ?_
 rintro bm bn ⟨aL,rfl,aM,aN⟩
 have aO:=(y.c0 aM).t3
 refine av rfl (nq (j9 ?_))
 cases oi aK
 exact ey results22 ⟨aL,rfl,aO.s,aN⟩
end Go.Proofs.YtnloenhmkdpgeaaGreatDoor
