/-
 Walks of the functions. Printed by gen.py.
-/
import Derived.Test.YtnloenhmkdpgeaaGreatDoorModelLScoreFlat
import Derived.Test.YtnloenhmkdpgeaaGreatDoorWalkA0
import Derived.Test.YtnloenhmkdpgeaaGreatDoorWalkA1
import Derived.Test.YtnloenhmkdpgeaaGreatDoorWalkA2
import Derived.Test.YtnloenhmkdpgeaaGreatDoorWalkA3
import Derived.Test.YtnloenhmkdpgeaaGreatDoorWalkA4
import Derived.Test.YtnloenhmkdpgeaaGreatDoorWalkA5
import Derived.Test.YtnloenhmkdpgeaaGreatDoorWalkA6
import Derived.Test.YtnloenhmkdpgeaaGreatDoorWalkA7
set_option linter.unusedVariables false
set_option linter.unusedSectionVars false
set_option maxRecDepth 100000
namespace Go.Proofs.YtnloenhmkdpgeaaGreatDoor
set_option maxHeartbeats 4000000
open Go Go.Fk Go.RowKit Tryz
variable (F:Nat){w:World}{K:F9}{Z:List Nat}{g1 g2 g3:Nat}{A B C D G H I J O R S T:Option Addr}{a b c d f i k l m n o p q s v x y aa ab ac ad ae af ag:Nat}
variable [dr:Dr]

theorem b0D {q0:A5}{q1:r4}{q2:r4}{r:(List F7)}(hS:SH w K Z w K [s7 g1 [V3 A a b,V3 B c d] 30])(aw:b7 F6 K A a b q0.Docs)(C:b7 B8 K B c d q0.Entries)(ax:q1.length≤maxLen)(ay:q2.length≤maxLen)(hm:a0e F q0 q1 q2=some r):
  Calls prog 65 #[.pointer (some ⟨g1,0,none⟩),sv q1,sv q2] w fun e w'=>∃a_1 n_2 c_3 K',e= .returned (V3 a_1 n_2 c_3)∧SH w K Z w' K' [s7 g1 [V3 A a b,V3 B c d] 30]∧b7 S2 K' a_1 n_2 c_3 r:=by
 rw [a0e] at hm
 refine ci func65 rfl ntmps65 (sr (lv (r_n rfl) (O7 (mv rfl (lv (B7 rfl) (fl M2 rfl a1e m0 hS rfl (lv (q9 underlying28 rfl C) (lv (r_m rfl) (nq ?_)))))))))
 obtain⟨U,V,l⟩:=ob hm
 refine l4 (IE U w K Z K [(0,pt g1)] [s7 g1 [V3 A a b,V3 B c d] 30]) ?_ ?_
 ·refine j7 ?_
  obtain⟨az,W,O⟩:=ob V
  refine qf (fun (D:Nat) (R:Unit)=>IV w K Z K [(0,pt g1),(1,sv q1),(2,sv q2),(12,V3 B c d),(13,V6 (q0.Entries.length:Int)),(14,V6 ((D:Nat):Int))] [s7 g1 [V3 A a b,V3 B c d] 30]) W ⟨K,rfl,hS,kr⟩ ?_ ?_
  ·rintro D R _ X aA hi30 Y aa ⟨k,rfl,m,o⟩
   refine sr (lv (u7 rfl rfl) (ns (C9 rfl (b8 (by omega)) (j3 (l5 (o4 (j7 (sr ?_))))))))
   obtain⟨i,ab,ac⟩:=ob Y
   refine li underlying28 P2 (C.mono o) ab fun ad ae aB af ag=>?_
   obtain⟨q,s,x,rfl,aC,aD,ah⟩:=af
   have ai:F1 _ ad ae [sv i.Field,sv i.Term,V3 q s x]:=ag
   refine lv (F3 P2 rfl m ai rfl) (al P2 m fun G aE aj=>?_)
   have ak:SH _ _ _ _ _ [s7 G [sv [],sv [],V3 none 0 0] 99,_]:=aj
   refine lw [sv i.Field,sv i.Term,V3 q s x] P2 ak fun aF y=>(ns ?_)
   obtain⟨am,an,ao⟩:=ob ac
   refine l4 (IV w K Z k [(0,pt g1),(1,sv q1),(2,sv q2),(8,pt G),(12,V3 B c d),(13,V6 (q0.Entries.length:Int)),(14,V6 ((D:Nat):Int)),(27,.bool am)] [s7 g1 [V3 A a b,V3 B c d] 30,s7 G [sv i.Field,sv i.Term,V3 q s x] 99]) ?_ ?_
   ·refine j5 (fl a3z rfl G7 m0 y rfl (mv rfl (lv (J8 rfl rfl) (mv rfl (bt an (fun f H=>?_) (fun f H=>?_))))))
    ·refine lg f (c7 a21 rfl) (lg f (w8 G7 rfl m0 y rfl) (lg f (i5 rfl) (lg f (J8 rfl rfl) (lv (n9 rfl f rfl) (i8 ?_)))))
     cases oi H
     exact qd ⟨k,rfl,y.f1,kr⟩
    refine lu f (lu f (lu f (lu f (lv (L8 rfl f rfl) (i8 ?_)))))
    cases oi H
    exact qd ⟨k,rfl,y.f1,kr⟩
   rintro _ aG ⟨S,rfl,I,T⟩
   refine l5 (D5 ao rfl (fun ap J=>?_) (fun ap J=>?_))
   ·refine sr (fl Y0 rfl a5B m1 I rfl (av rfl (nq (j9 (i9 (c9 (c9 ?_)))))))
    cases oi J
    cases aa _ rfl
    refine i9 (c9 ?_)
    cases oi O
    refine c9 ?_
    cases oi l
    exact ey results65 ⟨q,s,x,S,rfl,I.s,(ah.mono T)⟩
   refine j3 (x8 (qg (lv (B6 rfl rfl (C6 hi30 (b7.max C))) (mv rfl (i8 ?_)))))
   cases oi J
   exact qd ⟨_,rfl,S,rfl,I.s,(o.trans T)⟩
  rintro R _ X aq ⟨k,rfl,m,o⟩
  subst aq
  refine sr (lv (u7 rfl rfl) (ns (C8 rfl (c6 (by omega)) (y4 (g8 (g8 (l6 ?_)))))))
  cases oi O
  exact qd ⟨_,k,rfl,rfl,m,o⟩
 rintro _ aH ⟨aI,ar,rfl,rfl,au,aJ⟩
 have l:=E9 l
 refine qr (lv (r_n rfl) (nq (j9 ?_)))
 cases oi l
 exact ey results65 ⟨none,0,0,ar,rfl,au,(b7.nil _ _)⟩

theorem a7G {q0:A5}{q1:Int}{r:A1×Bool}(hS:SH w K Z w K [s7 g1 [V3 A a b,V3 B c d] 30])(W:b7 F6 K A a b q0.Docs)(aO:b7 B8 K B c d q0.Entries)(aP:i7 q1)(hm:a0i F q0 q1=some r):
  Calls prog 69 #[.pointer (some ⟨g1,0,none⟩),V6 q1] w fun e w'=>∃a_2 n_3 c_4 a_6 n_7 c_8 K',e= .returned (.tuple #[.agg #[V6 r.1.Id,V3 a_2 n_3 c_4,V3 a_6 n_7 c_8],.bool r.2])∧SH w K Z w' K' [s7 g1 [V3 A a b,V3 B c d] 30]∧i7 r.1.Id∧b7 K5 K' a_2 n_3 c_4 r.1.Fields∧b7 N0 K' a_6 n_7 c_8 r.1.Nums:=by
 rw [a0i] at hm
 refine ci func69 rfl ntmps69 (sr (al E8 hS fun O aQ ao=>?_))
 have ai:SH _ _ _ _ _ [s7 O [V6 0,V3 none 0 0,V3 none 0 0] 44,_]:=ao
 refine lv (O6 rfl) (O7 (mv rfl (lv (B7 rfl) (fl L3 rfl a1b m1 ai rfl (lv (q9 underlying27 rfl W) (lv (r_m rfl) (nq ?_)))))))
 obtain⟨ap,aq,S⟩:=ob hm
 refine l4 (fun E' w'=>∃i X Y aa ab ac ad k,ap= .inl i∧E'=[(0,pt g1),(4,pt O)]∧SH w K Z w' k [s7 g1 [V3 A a b,V3 B c d] 30,s7 O [V6 i.Id,V3 X Y aa,V3 ab ac ad] 44]∧M0 K k∧i7 i.Id∧b7 K5 k X Y aa i.Fields∧b7 N0 k ab ac ad i.Nums) ?_ ?_
 ·refine j7 ?_
  obtain⟨aR,ar,aj⟩:=ob aq
  refine qf (fun (ak:Nat) (l:A1) E' w'=>∃m o q s x y f,E'=[(0,pt g1),(1,V6 q1),(4,pt O),(11,V3 A a b),(12,V6 (q0.Docs.length:Int)),(13,V6 ((ak:Nat):Int))]∧SH w K Z w' f [s7 g1 [V3 A a b,V3 B c d] 30,s7 O [V6 l.Id,V3 m o q,V3 s x y] 44]∧M0 K f∧i7 l.Id∧b7 K5 f m o q l.Fields∧b7 N0 f s x y l.Nums) ar ⟨none,0,0,none,0,0,K,rfl,ai.f1,kr,I5,(b7.nil _ _),(b7.nil _ _)⟩ ?_ ?_
  ·rintro ak l _ au aS hi52 aw ax ⟨m,o,q,s,x,y,f,rfl,T,U,ae,af,ag⟩
   refine sr (lv (u7 rfl rfl) (ns (C9 rfl (b8 (by omega)) (j3 (l5 (o4 (j7 (sr ?_))))))))
   obtain⟨R,ay,az⟩:=ob aw
   refine li underlying27 E8 (W.mono U) ay fun aA aB aT aC aD=>?_
   obtain⟨C,D,G,H,I,J,rfl,aE,aF,aG⟩:=aC
   have aH:F1 _ aA aB [V6 R.Id,V3 C D G,V3 H I J]:=aD
   refine lv (F3 E8 rfl T aH rfl) (al E8 T fun aI aU aJ=>?_)
   have aK:SH _ _ _ _ _ [s7 aI [V6 0,V3 none 0 0,V3 none 0 0] 44,_,_]:=aJ
   refine lw [V6 R.Id,V3 C D G,V3 H I J] E8 aK fun aV V=>(nr (fl P6 rfl E6 m0 V rfl (mv rfl (lv (A9 rfl rfl) (nq (D5 az rfl (fun aL ah=>?_) (fun aL ah=>?_)))))))
   ·refine sr (lv (j6 (ds:=[V6 R.Id,V3 C D G,V3 H I J]) E8 rfl m0 V rfl rfl) (lw [V6 R.Id,V3 C D G,V3 H I J] E8 V.f2 fun aW am=>(lv (r_t rfl) (nq (j9 (i9 (c9 (c9 ?_))))))))
    cases oi ah
    cases ax _ rfl
    refine i9 (c9 ?_)
    cases oi aj
    refine c9 ?_
    cases oi S
    exact S7 (vs:=[_,_]) results69 ⟨⟨_,_,rfl,B2 E8 (cs:=[V6 R.Id,V3 C D G,V3 H I J]) (fun j c e=>by rw [Nat.zero_add,am.mem_obj m0];exact e) (.inl ⟨rfl,rfl,rfl⟩)⟩,rfl,trivial⟩ ⟨C,D,G,H,I,J,f,rfl,am.s,aE,aF,aG⟩
   refine j3 (x8 (qg (lv (B6 rfl rfl (C6 hi52 (b7.max W))) (mv rfl (i8 ?_)))))
   cases oi ah
   exact qd ⟨_,rfl,m,o,q,s,x,y,f,rfl,V.s,U,ae,af,ag⟩
  rintro l _ au aM ⟨m,o,q,s,x,y,f,rfl,T,U,ae,af,ag⟩
  subst aM
  refine sr (lv (u7 rfl rfl) (ns (C8 rfl (c6 (by omega)) (y4 (g8 (g8 (l6 ?_)))))))
  cases oi aj
  exact qd ⟨_,m,o,q,s,x,y,f,rfl,rfl,T,U,ae,af,ag⟩
 rintro _ aX ⟨i,X,Y,aa,ab,ac,ad,k,rfl,rfl,aN,aY,aZ,ba,bb⟩
 have S:=E9 S
 refine qr (lv (C3 (cs:=#[V6 0,V3 none 0 0,V3 none 0 0]) b4M E8 rfl (by kernel_rfl)) (lw [V6 0,V3 none 0 0,V3 none 0 0] E8 aN.f1 fun bc an=>(lv (O6 rfl) (nq (j9 ?_)))))
 cases oi S
 exact S7 (vs:=[_,_]) results69 ⟨⟨_,_,rfl,B2 E8 (cs:=[V6 0,V3 none 0 0,V3 none 0 0]) (fun j c e=>by rw [Nat.zero_add,an.mem_obj m0];exact e) (.inl ⟨rfl,rfl,rfl⟩)⟩,rfl,trivial⟩ ⟨none,0,0,none,0,0,k,rfl,an.s,I5,(b7.nil _ _),(b7.nil _ _)⟩

theorem b0F {q0:A5}{q1:r4}{r:(List r4)}(hS:SH w K Z w K [s7 g1 [V3 A a b,V3 B c d] 30])(aM:b7 F6 K A a b q0.Docs)(C:b7 B8 K B c d q0.Entries)(aN:q1.length≤maxLen)(hm:a3h F q0 q1=some r):
  Calls prog 99 #[.pointer (some ⟨g1,0,none⟩),sv q1] w fun e w'=>∃a_1 n_2 c_3 K',e= .returned (V3 a_1 n_2 c_3)∧SH w K Z w' K' [tail (V3 a_1 n_2 c_3) 9 1,s7 g1 [V3 A a b,V3 B c d] 30]∧b7 D9 K' a_1 n_2 c_3 r:=by
 rw [a3h] at hm
 refine ci func99 rfl ntmps99 (sr (lv (r_n rfl) (nr (b0 D9 underlying23 G7 hS fun Y aO J D aa S=>(av rfl (O7 (mv rfl (lv (B7 rfl) (fl M2 rfl a1e m1 S rfl ?_)))))))))
 refine lv (q9 underlying28 rfl (C.mono D)) (lv (r_m rfl) (nq ?_))
 obtain⟨ab,ac,ad⟩:=ob hm
 refine l4 (fun E' w'=>∃o q s x,E'=[(0,pt g1),(5,V3 o q s)]∧SH w K Z w' x [s7 g1 [V3 A a b,V3 B c d] 30,tail (V3 o q s) 9 1]∧M0 J x∧b7 D9 x o q s ab) ?_ ?_
 ·refine j7 ?_
  obtain⟨aP,ae,af⟩:=ob ac
  refine qF (fun (T:Nat) (O:(List r4)) E' w'=>∃f i k l,E'=[(0,pt g1),(1,sv q1),(5,V3 f i k),(12,V3 B c d),(13,V6 (q0.Entries.length:Int)),(14,V6 ((T:Nat):Int))]∧SH w K Z w' l [s7 g1 [V3 A a b,V3 B c d] 30,tail (V3 f i k) 9 1]∧M0 J l∧b7 D9 l f i k O) ae ⟨Y,0,0,J,rfl,S.f1,kr,aa⟩ ?_ ?_
  ·rintro T O _ ag aQ hi43 ah ⟨f,i,k,l,rfl,G,y,H⟩
   refine sr (lv (u7 rfl rfl) (ns (C9 rfl (b8 (by omega)) (j3 (l5 (o4 (j7 (sr ?_))))))))
   obtain⟨m,ai,aj⟩:=ob ah
   refine li underlying28 P2 (C.mono (D.trans y)) ai fun ak am aR an ao=>?_
   obtain⟨U,V,W,rfl,aS,ap,aT⟩:=an
   have aq:F1 _ ak am [sv m.Field,sv m.Term,V3 U V W]:=ao
   refine lv (F3 P2 rfl G aq rfl) (al P2 G fun ar aU au=>?_)
   have aw:SH _ _ _ _ _ [s7 ar [sv [],sv [],V3 none 0 0] 99,_,_]:=au
   refine lw [sv m.Field,sv m.Term,V3 U V W] P2 aw fun aV I=>(nr (fl a3z rfl G7 m0 I rfl (mv rfl (lv (J8 rfl rfl) (nq (D5 aj rfl (fun ax R=>?_) (fun ax R=>?_)))))))
   ·refine j5 (mv rfl (fl a21 rfl G7 m0 I rfl (lb D9 (sv m.Term) [sv m.Term] m.Term underlying23 G7 ⟨rfl,ap⟩ I fun aW aX aY X ay az=>?_)))
    obtain⟨aZ,aA,aB⟩:=ob R
    refine lp underlying23 G7 (H.mono X) ay aA az.f3 fun aC aD aE ba aF aG aH aI=>(av rfl (nb (qg (lv (B6 rfl rfl (C6 hi43 (b7.max (C.mono D)))) (mv rfl (i8 ?_))))))
    cases oi aB
    exact qd ⟨aC,aD,aE,aF,rfl,aI.f3.s,((y.trans X).trans aG),aH⟩
   refine j3 (x8 (qg (lv (B6 rfl rfl (C6 hi43 (b7.max (C.mono D)))) (mv rfl (i8 ?_)))))
   cases oi R
   exact qd ⟨f,i,k,l,rfl,I.s,y,H⟩
  rintro O _ ag aJ ⟨f,i,k,l,rfl,G,y,H⟩
  subst aJ
  refine sr (lv (u7 rfl rfl) (ns (C8 rfl (c6 (by omega)) (y4 (g8 (g8 (l6 ?_)))))))
  cases oi af
  exact qd ⟨f,i,k,l,rfl,G,y,H⟩
 rintro _ bb ⟨o,q,s,x,rfl,aK,bc,aL⟩
 refine qr (mv rfl (av rfl (nq (j9 ?_))))
 cases oi ad
 exact ey results99 ⟨o,q,s,x,rfl,aK.f1,aL⟩

theorem a0U {q0:List UInt8}{r:u6×A5×r4×r4}(hS:SH w K [] w K [])(aw:b7 tU8 K A a b q0)(hm:O1 F q0=some r):
  Calls prog 15 #[V3 A a b] w fun e w'=>∃a_1 n_2 c_3 a_5 n_6 c_7 a_9 n_10 c_11 a_13 n_14 c_15 K',e= .returned (.tuple #[.agg #[V3 a_1 n_2 c_3,V3 a_5 n_6 c_7],.agg #[V3 a_9 n_10 c_11,V3 a_13 n_14 c_15],sv r.2.2.1,sv r.2.2.2])∧SH w K [] w' K' [tail (V3 a_1 n_2 c_3) 9 1,tail (V3 a_5 n_6 c_7) 144 2,tail (V3 a_13 n_14 c_15) 99 3]∧b7 D9 K' a_1 n_2 c_3 r.1.Stops∧b7 L0 K' a_5 n_6 c_7 r.1.Syns∧b7 F6 K' a_9 n_10 c_11 r.2.1.Docs∧b7 B8 K' a_13 n_14 c_15 r.2.1.Entries∧r.2.2.1.length≤maxLen∧r.2.2.2.length≤maxLen:=by
 rw [O1] at hm
 refine ci func15 rfl ntmps15 (sr (al B9 hS fun g5 w6 ay=>?_))
 have az:SH _ _ _ _ _ [s7 g5 [V3 none 0 0,V3 none 0 0] 26]:=ay
 refine al C4 az fun g9 bg aB=>?_
 have ac:SH _ _ _ _ _ [s7 g9 [V3 none 0 0,V3 none 0 0] 30,_]:=aB
 refine lv (r_s rfl) (lv (r_s rfl) (nr (mv rfl ?_)))
 obtain⟨bh,aC,aD⟩:=ob hm
 refine lk c1H (a2k F ac.enter0 aw aC) ?_
 rintro bi bj ⟨bk,bl,bm,bn,bo,rfl,aE,aF,aG⟩
 have ad:=(ac.c0 aE).t3
 refine av rfl (nr (mv rfl ?_))
 obtain⟨bp,aH,aI⟩:=ob aD
 refine lk c2Q (a2A F ad.e1 aF aG aH) ?_
 rintro bq br ⟨k,l,m,o,q,s,x,y,B,C,D,G,bs,bu,bv,aJ,rfl,aK,ae,af,ag,ah,ai,aj⟩
 have aL:=(ad.c1 aK).t6
 refine mv rfl (lv (y3 rfl rfl) (lv (y3 rfl rfl) (al B9 aL fun ak bx aM=>?_)))
 have aN:SH _ _ _ _ _ [s7 ak [V3 none 0 0,V3 none 0 0] 26,_,_,_,_,_,_]:=aM
 refine al C4 aN fun am bz aO=>?_
 have aP:SH _ _ _ _ _ [s7 am [V3 none 0 0,V3 none 0 0] 30,_,_,_,_,_,_,_]:=aO
 refine lw [V3 k l m,V3 o q s] B9 aP.f1 fun bA aQ=>(lw [V3 x y B,V3 C D G] C4 aQ.f1 fun bB aR=>(ns ?_))
 obtain⟨bC,an,aS⟩:=ob aI
 obtain⟨bD,ao,ap⟩:=ob aS
 have S:=aR.drew
 refine j_0 (fun w'=>H0 aJ w'∧B0 ak [V3 k l m,V3 o q s] w'∧B0 am [V3 x y B,V3 C D G] w') 11 [] mixed ⟨S.hasK kr,S.hasObj m1,S.hasObj m0⟩ (jh 0 rfl (fun _ h=>A0 (ds:=[V3 k l m,V3 o q s]) B9 rfl rfl rfl h.2.1) (jh 1 rfl (fun _ h=>A0 (ds:=[V3 x y B,V3 C D G]) C4 rfl rfl rfl h.2.2) (jv 2 rfl (i5 rfl) (jv 4 rfl (i5 rfl) (j2 3 5 rfl rfl ?_ ?_)))))
 ·have aq:=S.f5
  refine lk c6z (a62 F aq.e1 ai aj an) ?_
  rintro bE bF ⟨bG,bH,bI,bJ,rfl,d,aT,aU,aV⟩
  have U:=(aq.c1 d).t8
  refine P0 ⟨U.hasK d.le,U.hasObj m2,U.hasObj m1⟩ (j1 5 rfl (bw [[99,97,116],[100,111,103],[114,117,110],[110,121],[110,101,119],[102,111,120],[122,122],[108,97,114,103]] underlying23 G7 U fun bK bL bM H aW V=>(P0 ⟨V.hasK (d.le.trans H),V.hasObj m3,V.hasObj m2⟩ (j1 6 rfl ?_))))
  have ar:=V.f1
  refine lk b2o (J4 F ar.e1 (aU.mono H) aV aW ao) ?_
  rintro bN bO ⟨bP,bQ,bR,aX,rfl,I,aY,bS,bT⟩
  have W:=(ar.c1 I).t9
  refine P0 ⟨W.hasK ((d.le.trans H).trans I.le),W.hasObj m3,W.hasObj m2⟩ (j1 7 rfl (lw [V3 k l m,V3 o q s] B9 W.f8 fun bU X=>(P0 ⟨X.hasK ((d.le.trans H).trans I.le),X.hasObj m4,X.hasObj m3⟩ (j1 8 rfl (lw [V3 x y B,V3 C D G] C4 X.f8 fun bV O=>(P0 ⟨O.hasK ((d.le.trans H).trans I.le),O.hasObj m5,O.hasObj m4⟩ (jv 9 rfl (u9 rfl) (jv 10 rfl (u9 rfl) (jd ?_)))))))))
  refine l5 (j9 ?_)
  cases oi ap
  exact S7 (vs:=[_,_,_,_]) results15 ⟨⟨_,_,rfl,B2 B9 (cs:=[V3 k l m,V3 o q s]) (fun j c e=>by rw [Nat.zero_add,O.mem_obj m1];exact e) (.inl ⟨rfl,rfl,rfl⟩)⟩,⟨_,_,rfl,B2 C4 (cs:=[V3 x y B,V3 C D G]) (fun j c e=>by rw [Nat.zero_add,O.mem_obj m0];exact e) (.inl ⟨rfl,rfl,rfl⟩)⟩,rfl,rfl,trivial⟩ ⟨k,l,m,o,q,s,x,y,B,C,D,G,aX,rfl,O.s,(ae.mono ((d.le.trans H).trans I.le)),(af.mono ((d.le.trans H).trans I.le)),(ag.mono ((d.le.trans H).trans I.le)),(ah.mono ((d.le.trans H).trans I.le)),aT,aY⟩
 refine bw [[99,97,116],[100,111,103],[114,117,110],[110,121],[110,101,119],[102,111,120],[122,122],[108,97,114,103]] underlying23 G7 S fun bW bX bY f aZ Y=>(P0 ⟨Y.hasK f,Y.hasObj m2,Y.hasObj m1⟩ (j1 3 rfl ?_))
 have au:=Y.f6
 refine lk c6z (a62 F au.e1 (ai.mono f) aj an) ?_
 rintro bZ ca ⟨cb,cc,cd,ce,rfl,i,ba,bb,bc⟩
 have T:=(au.c1 i).t9
 refine P0 ⟨T.hasK (f.trans i.le),T.hasObj m3,T.hasObj m2⟩ (j1 6 rfl (lk b2o (J4 F T.e1 bb bc (aZ.mono i.le) ao) ?_))
 rintro cf cg ⟨ch,cj,ck,bd,rfl,J,be,cl,cm⟩
 have aa:=(T.c1 J).t9
 refine P0 ⟨aa.hasK ((f.trans i.le).trans J.le),aa.hasObj m3,aa.hasObj m2⟩ (j1 7 rfl (lw [V3 k l m,V3 o q s] B9 aa.f8 fun cn ab=>(P0 ⟨ab.hasK ((f.trans i.le).trans J.le),ab.hasObj m4,ab.hasObj m3⟩ (j1 8 rfl (lw [V3 x y B,V3 C D G] C4 ab.f8 fun cp R=>(P0 ⟨R.hasK ((f.trans i.le).trans J.le),R.hasObj m5,R.hasObj m4⟩ (jv 9 rfl (u9 rfl) (jv 10 rfl (u9 rfl) (jd ?_)))))))))
 refine l5 (j9 ?_)
 cases oi ap
 exact S7 (vs:=[_,_,_,_]) results15 ⟨⟨_,_,rfl,B2 B9 (cs:=[V3 k l m,V3 o q s]) (fun j c e=>by rw [Nat.zero_add,R.mem_obj m1];exact e) (.inl ⟨rfl,rfl,rfl⟩)⟩,⟨_,_,rfl,B2 C4 (cs:=[V3 x y B,V3 C D G]) (fun j c e=>by rw [Nat.zero_add,R.mem_obj m0];exact e) (.inl ⟨rfl,rfl,rfl⟩)⟩,rfl,rfl,trivial⟩ ⟨k,l,m,o,q,s,x,y,B,C,D,G,bd,rfl,R.s,(ae.mono ((f.trans i.le).trans J.le)),(af.mono ((f.trans i.le).trans J.le)),(ag.mono ((f.trans i.le).trans J.le)),(ah.mono ((f.trans i.le).trans J.le)),ba,be⟩

theorem a5c {q0:u6}{q1:A5}{r:Bool}(hS:SH w K [] w K [])(o:b7 D9 K A a b q0.Stops)(q:b7 L0 K B c d q0.Syns)(s:b7 F6 K C f i q1.Docs)(x:b7 B8 K D k l q1.Entries)(hm:R4 F q0 q1=some r):
  Calls prog 17 #[.agg #[V3 A a b,V3 B c d],.agg #[V3 C f i,V3 D k l]] w (R_b w K r):=by
 rw [R4] at hm
 refine ci func17 rfl ntmps17 (sr (bx rfl hS fun y V G=>?_))
 have H:SH _ _ _ _ _ [s7 y [V3 A a b,V3 B c d] 26]:=G
 refine bx rfl H fun I W J=>?_
 have m:SH _ _ _ _ _ [s7 I [V3 C f i,V3 D k l] 30,_]:=J
 refine lv (O6 rfl) (nr (lv (j6 (ds:=[V3 A a b,V3 B c d]) B9 rfl m1 m rfl rfl) (lv (j6 (ds:=[V3 C f i,V3 D k l]) C4 rfl m0 m rfl rfl) ?_)))
 obtain⟨X,O,R⟩:=ob hm
 refine lk c2R (a5K F m.enter0 o q s x O) ?_
 rintro Y aa ⟨S,rfl,T⟩
 have U:=(m.c0 T).t2
 refine av rfl (nq (j9 ?_))
 cases oi R
 exact ey results17 ⟨S,rfl,U.s⟩

theorem a60 {q0:u6}{q1:A5}{q2:r4}{q3:r4}{r:(List F7)}(hS:SH w K [] w K [])(aC:b7 D9 K A a b q0.Stops)(aD:b7 L0 K B c d q0.Syns)(ap:b7 F6 K C f i q1.Docs)(aq:b7 B8 K D k l q1.Entries)(aE:q2.length≤maxLen)(aF:q3.length≤maxLen)(hm:a0G F q0 q1 q2 q3=some r):
  Calls prog 18 #[.agg #[V3 A a b,V3 B c d],.agg #[V3 C f i,V3 D k l],sv q2,sv q3] w fun e w'=>∃a_1 n_2 c_3 K',e= .returned (V3 a_1 n_2 c_3)∧SH w K [] w' K' [tail (V3 a_1 n_2 c_3) 48 2]∧b7 S2 K' a_1 n_2 c_3 r:=by
 rw [a0G] at hm
 refine ci func18 rfl ntmps18 (sr (bx rfl hS fun aG bL aH=>?_))
 have aI:SH _ _ _ _ _ [s7 aG [V3 A a b,V3 B c d] 26]:=aH
 refine bx rfl aI fun aJ bM aK=>?_
 have aL:SH _ _ _ _ _ [s7 aJ [V3 C f i,V3 D k l] 30,_]:=aK
 refine lv (r_n rfl) (nr (b0 S2 underlying37 a02 aL fun ar bN bO s au T=>(av rfl (O7 (lv (j6 (ds:=[V3 A a b,V3 B c d]) B9 rfl m2 T rfl rfl) (lv (j6 (ds:=[V3 C f i,V3 D k l]) C4 rfl m1 T rfl rfl) ?_))))))
 obtain⟨bP,aM,aN⟩:=ob hm
 refine lk a9k (J1 F T.enter0 (aC.mono s) (aD.mono s) (ap.mono s) (aq.mono s) aM) ?_
 rintro bQ bR ⟨aO,rfl,H⟩
 have aw:=(T.c0 H).t3
 refine lv (A4 rfl) (nq (D5 aN rfl (fun aP ab=>?_) (fun aP ab=>?_)))
 ·refine sr (mv rfl (av rfl (nq (rr ?_))))
  cases oi ab
  exact ey results18 ⟨ar,0,0,aO,rfl,aw.s,(au.mono H.le)⟩
 refine j3 (qs (sr (mv rfl (mv rfl ?_))))
 obtain⟨aQ,aR,aS⟩:=ob ab
 have ax:=aw.f1
 refine lk c1I (b0D F ax.e1 (ap.mono (s.trans H.le)) (aq.mono (s.trans H.le)) aE aF aR) ?_
 rintro bS bT ⟨aT,aU,aV,ac,rfl,ay,ad⟩
 have aW:=(ax.c1 ay).t3
 refine lv (q9 underlying37 rfl ad) (lv (r_m rfl) (nq ?_))
 obtain⟨aX,aY,aZ⟩:=ob aS
 refine l4 (fun E' w'=>∃I J O R,E'=[(9,V3 I J O)]∧SH w K [] w' R [tail (V3 I J O) 48 2]∧M0 ac R∧b7 S2 R I J O aX) ?_ ?_
 ·refine j7 ?_
  obtain⟨bU,ba,bb⟩:=ob aY
  have bc:=aW.sb (sd (sk (sd sz)))
  refine qF (fun (az:Nat) (ae:(List F7)) E' w'=>∃x y G m,E'=[(9,V3 x y G),(20,V3 aT aU aV),(21,V6 (aQ.length:Int)),(22,V6 ((az:Nat):Int))]∧SH w K [] w' m [tail (V3 x y G) 48 2]∧M0 ac m∧b7 S2 m x y G ae) ba ⟨ar,0,0,ac,rfl,bc,kr,(au.mono (H.le.trans ay.le))⟩ ?_ ?_
  ·rintro az ae _ bd bV hi83 be ⟨x,y,G,m,rfl,U,V,af⟩
   refine sr (lv (u7 rfl rfl) (ns (C9 rfl (b8 (by omega)) (j3 (l5 (o4 (j7 (sr ?_))))))))
   obtain⟨o,bf,bg⟩:=ob be
   refine li underlying37 a02 (ad.mono V) bf fun bh bi bW bj bk=>?_
   obtain⟨ag,ah,ai,rfl,bl,bm⟩:=bj
   have bn:F1 _ bh bi [V6 o.Doc,V3 ag ah ai]:=bk
   refine lv (F3 a02 rfl U bn rfl) (al a02 U fun aA bX bo=>?_)
   have bp:SH _ _ _ _ _ [s7 aA [V6 0,V3 none 0 0] 48,_]:=bo
   refine lw [V6 o.Doc,V3 ag ah ai] a02 bp fun bY bq=>(nq ?_)
   have aj:=bq.drew
   refine j_0 (fun w'=>H0 m w'∧B0 aA [V6 o.Doc,V3 ag ah ai] w') 11 [] mixed ⟨aj.hasK kr,aj.hasObj m0⟩ (jv 0 rfl (i5 rfl) (jv 1 rfl (c7 a5U rfl) (jh 2 rfl (fun _ h=>B5 E6 rfl rfl h.2) (jv 4 rfl (c7 a4M rfl) (jh 5 rfl (fun _ h=>B5 a1g rfl rfl h.2) (j1 3 rfl (b0 D6 underlying46 E6 aj fun bZ ca cb q br ak=>(P0 ⟨ak.hasK q,ak.hasObj m1⟩ (j1 6 rfl ?_)))))))))
   obtain⟨bs,bu,bv⟩:=ob bg
   refine lp underlying46 E6 br (bm.mono q) bu ak fun W X Y cc cd S bz am=>(P0 ⟨am.hasK (q.trans S),am.hasObj m1⟩ (jv 7 rfl (C3 (cs:=#[V6 o.Doc,V3 W X Y]) c5i a02 rfl (by kernel_rfl)) (j1 8 rfl (lb S2 (.agg #[V6 o.Doc,V3 W X Y]) [V6 o.Doc,V3 W X Y] (F7.mk o.Doc bs) underlying37 a02 ⟨W,X,Y,rfl,bl,bz⟩ am fun ce cf cg aa bA an=>(P0 ⟨an.hasK ((q.trans S).trans aa),an.hasObj m2⟩ (j1 9 rfl ?_))))))
   obtain⟨ch,bB,bC⟩:=ob bv
   refine lp underlying37 a02 (af.mono ((q.trans S).trans aa)) bA bB an.f3 fun bD bE bF cj bG aB bH ao=>(P0 ⟨ao.hasK (((q.trans S).trans aa).trans aB),ao.hasObj m3⟩ (jv 10 rfl (u9 rfl) (jd (x8 (qg (lv (B6 rfl rfl (C6 hi83 (b7.max ad))) (mv rfl (i8 ?_))))))))
   cases oi bC
   exact qd ⟨bD,bE,bF,bG,rfl,ao.s,((((V.trans q).trans S).trans aa).trans aB),bH⟩
  rintro ae _ bd bI ⟨x,y,G,m,rfl,U,V,af⟩
  subst bI
  refine sr (lv (u7 rfl rfl) (ns (C8 rfl (c6 (by omega)) (y4 (g8 (g8 (l6 ?_)))))))
  cases oi bb
  exact qd ⟨x,y,G,m,rfl,U,V,af⟩
 rintro _ ck ⟨I,J,O,R,rfl,bJ,cl,bK⟩
 refine qr (mv rfl (av rfl (nq (j9 ?_))))
 cases oi aZ
 exact ey results18 ⟨I,J,O,R,rfl,bJ,bK⟩

theorem P4 {q0:u6}{q1:A5}{q2:q7}{q3:Int}{r:Int}(hS:SH w K [] w K [])(an:b7 D9 K A a b q0.Stops)(ao:b7 L0 K B c d q0.Syns)(U:b7 F6 K C f i q1.Docs)(V:b7 B8 K D k l q1.Entries)(ap:i7 q2.Kind)(aq:q2.Field.length≤maxLen)(ar:b7 D9 K G m n q2.Words)(au:i7 q2.From)(aw:i7 q2.To)(ax:b7 F4 K H o p q2.Kids)(aB:i7 q3)(hG31:a4i y6 1 q G8 w)(hD: ¬dr.D)(hm:N5 F q0 q1 q2 q3=some r):
  Calls prog 21 #[.agg #[V3 A a b,V3 B c d],.agg #[V3 C f i,V3 D k l],.agg #[V6 q2.Kind,sv q2.Field,V3 G m n,V6 q2.From,V6 q2.To,V3 H o p],V6 q3] w (R_i w K r):=by
 rw [N5] at hm
 refine ci func21 rfl ntmps21 (sr (bx rfl hS fun W bj aC=>?_))
 have aD:SH _ _ _ _ _ [s7 W [V3 A a b,V3 B c d] 26]:=aC
 refine bx rfl aD fun X bk aE=>?_
 have aF:SH _ _ _ _ _ [s7 X [V3 C f i,V3 D k l] 30,_]:=aE
 refine bx rfl aF fun Y bl aG=>?_
 have aH:SH _ _ _ _ _ [s7 Y [V6 q2.Kind,sv q2.Field,V3 G m n,V6 q2.From,V6 q2.To,V3 H o p] 35,_,_]:=aG
 refine lv (N2 rfl) (nr (mv rfl ?_))
 obtain⟨aa,aI,aJ⟩:=ob hm
 have ay:=aH.f1
 refine lk c4w (a7G F ay.e1 U V aB aI) ?_
 rintro bm bn ⟨ab,ac,ad,ae,af,ag,aK,rfl,s,aL,aM,aN⟩
 have aO:=(ay.c1 s).t3
 refine mv rfl (lv (y3 rfl rfl) (lv (y3 rfl rfl) (al E8 aO fun ah bo aP=>?_)))
 have aQ:SH _ _ _ _ _ [s7 ah [V6 0,V3 none 0 0,V3 none 0 0] 44,_,_,_]:=aP
 refine lw [V6 aa.1.Id,V3 ab ac ad,V3 ae af ag] E8 aQ fun bp R=>(av rfl (ns (o4 ?_)))
 obtain⟨aR,aS,aT⟩:=ob aJ
 refine l4 (IV w K [] aK [(4,pt W),(5,pt X),(6,pt Y),(9,pt ah),(29,.bool aR)] [s7 W [V3 A a b,V3 B c d] 26,s7 X [V3 C f i,V3 D k l] 30,s7 Y [V6 q2.Kind,sv q2.Field,V3 G m n,V6 q2.From,V6 q2.To,V3 H o p] 35,s7 ah [V6 aa.1.Id,V3 ab ac ad,V3 ae af ag] 44]) ?_ ?_
 ·refine j5 (lv (j6 (ds:=[V3 A a b,V3 B c d]) B9 rfl m3 R rfl rfl) (lv (j6 (ds:=[V3 C f i,V3 D k l]) C4 rfl m1 R rfl rfl) ?_))
  obtain⟨bq,aU,aV⟩:=ob aS
  refine lk a9k (J1 F R.enter0 (an.mono s.le) (ao.mono s.le) (U.mono s.le) (V.mono s.le) aU) ?_
  rintro br bs ⟨aW,rfl,J⟩
  have O:=(R.c0 J).t4
  refine lv (A4 rfl) (mv rfl (bt aV (fun x ai=>?_) (fun x ai=>?_)))
  ·refine lu x (lu x (lu x (lv (J6 rfl x rfl) (mv rfl (lu rfl (lu rfl (lv (J6 rfl rfl rfl) (i8 ?_))))))))
   cases oi ai
   exact qd ⟨aW,rfl,O.f2.f2.f3,J.le⟩
  refine lg x (j6 (ds:=[V6 q2.Kind,sv q2.Field,V3 G m n,V6 q2.From,V6 q2.To,V3 H o p]) B1 rfl m2 O rfl rfl) ?_
  obtain⟨bu,aX,aY⟩:=ob ai
  refine A3 (wg rfl rfl x) rfl (A2 (vs:=[.agg #[V6 q2.Kind,sv q2.Field,V3 G m n,V6 q2.From,V6 q2.To,V3 H o p]]) b9U rfl) (a0J F O.enter0 ap aq (ar.mono (s.le.trans J.le)) au aw (ax.mono (s.le.trans J.le)) (hG31.keep O) aX) ?_
  rintro bv bz ⟨az,rfl,aj⟩
  refine⟨_,rfl,?_⟩
  have aA:=(O.c0 aj).t4
  refine lg x (A4 rfl) (lv (l9 rfl x rfl) (mv rfl (bt aY (fun I ak=>?_) (fun I ak=>?_))))
  ·refine lu I (lu I (lv (J6 rfl I rfl) (i8 ?_)))
   cases oi ak
   exact qd ⟨az,rfl,aA.f2.f2.f3,(J.le.trans aj.le)⟩
  refine lg I (i5 rfl) (lg I (A4 rfl) (lv (l9 rfl I rfl) (i8 ?_)))
  cases oi ak
  exact qd ⟨az,rfl,aA.f2.f2.f3,(J.le.trans aj.le)⟩
 rintro _ bA ⟨aZ,rfl,S,y⟩
 refine l5 (D5 aT rfl (fun ba am=>?_) (fun ba am=>?_))
 ·refine sr (lv (N2 rfl) (nq (rr ?_)))
  cases oi am
  exact ey results21 ⟨aZ,rfl,S.s,I5⟩
 refine j3 (qr (lv (j6 (ds:=[V3 A a b,V3 B c d]) B9 rfl m0 S rfl rfl) (lv (j6 (ds:=[V3 C f i,V3 D k l]) C4 rfl m1 S rfl rfl) (lv (C3 (cs:=#[V3 A a b,V3 B c d,V3 C f i,V3 D k l]) c4i c4n rfl (by kernel_rfl)) (bx rfl S fun bb bB bc=>?_)))))
 have T:SH _ _ _ _ _ [s7 bb [V3 A a b,V3 B c d,V3 C f i,V3 D k l] 113,_,_,_,_]:=bc
 refine av rfl (nr (mv rfl (lv (j6 (ds:=[V6 q2.Kind,sv q2.Field,V3 G m n,V6 q2.From,V6 q2.To,V3 H o p]) B1 rfl m3 T rfl rfl) (lv (j6 (ds:=[V6 aa.1.Id,V3 ab ac ad,V3 ae af ag]) E8 rfl m4 T rfl rfl) ?_))))
 obtain⟨bC,bd,be⟩:=ob am
 refine lk b9V ((a5s F (q0:=(T0.mk q0 q1))) T.e1 (an.mono (s.le.trans y)) (ao.mono (s.le.trans y)) (U.mono (s.le.trans y)) (V.mono (s.le.trans y)) ap aq (ar.mono (s.le.trans y)) au aw (ax.mono (s.le.trans y)) aL (aM.mono y) (aN.mono y) hD bd) ?_
 rintro bD bE ⟨bf,rfl,bg,bh⟩
 have bi:=(T.c1 bg).t5
 refine av rfl (nq (j9 ?_))
 cases oi be
 exact ey results21 ⟨bf,rfl,bi.s,bh⟩

theorem R7 {q0:q7}{q1:Bool}{q2:Bool}{q3:Bool}{q4:Bool}{r:Bool}(hS:SH w K [] w K [])(aJ:i7 q0.Kind)(aK:q0.Field.length≤maxLen)(aG:b7 D9 K A a b q0.Words)(aL:i7 q0.From)(aM:i7 q0.To)(ac:b7 F4 K B c d q0.Kids)(hm:F2 F q0 q1 q2 q3 q4=some r):
  Calls prog 206 #[.agg #[V6 q0.Kind,sv q0.Field,V3 A a b,V6 q0.From,V6 q0.To,V3 B c d],.bool q1,.bool q2,.bool q3,.bool q4] w (R_b w K r):=by
 rw [F2] at hm
 refine ci func206 rfl ntmps206 (sr (bx rfl hS fun aH aN aI=>?_))
 have f:SH _ _ _ _ _ [s7 aH [V6 q0.Kind,sv q0.Field,V3 A a b,V6 q0.From,V6 q0.To,V3 B c d] 35]:=aI
 refine lv (O6 rfl) (nr (mv rfl (mv rfl (bt hm (fun W ad=>?_) (fun W ad=>?_)))))
 ·refine lu W (lu W (lu W (lv (J6 rfl W rfl) (mv rfl (lg rfl (i5 rfl) (lg rfl (i5 rfl) (bt ad (fun s ae=>?_) (fun s ae=>?_))))))))
  ·refine lu s (lu s (lu s (lu s (lg rfl (J6 rfl s rfl) (lv (n9 rfl rfl rfl) (mv rfl (lg rfl (i5 rfl) (lg rfl (i5 rfl) (bt ae (fun i af=>?_) (fun i af=>?_))))))))))
   ·refine lu i (lu i (lu i (lu i (A8 (uu rfl rfl) rfl (A8 (uu rfl rfl) rfl (A8 (uu rfl rfl) rfl (lu i (lg rfl (J6 rfl i rfl) (lv (n9 rfl rfl rfl) ?_)))))))))
    refine mv rfl (lg rfl (i5 rfl) (lg rfl (i5 rfl) (bt af (fun x ag=>?_) (fun x ag=>?_))))
    ·refine lu x (lu x (lu x (lu x (lg rfl (J6 rfl x rfl) (lv (n9 rfl rfl rfl) (av rfl (nq (j9 ?_))))))))
     cases oi ag
     exact ey results206 ⟨K,rfl,f.s⟩
    refine lg x (c7 W9 rfl) (lg x (w8 a5u rfl m0 f rfl) (lg x (q9 underlying33 rfl ac) (lg x (A9 rfl rfl) (lg rfl (l9 rfl x rfl) (lv (n9 rfl rfl rfl) (av rfl (nq (j9 ?_))))))))
    cases oi ag
    exact ey results206 ⟨K,rfl,f.s⟩
   refine lg i (c7 a1w rfl) (lg i (w8 E6 rfl m0 f rfl) (lg i (A9 rfl rfl) (lg i (i5 rfl) (bt af (fun X ah=>?_) (fun X ah=>?_)))))
   ·refine lg X (c7 a4L rfl) (lg X (w8 E6 rfl m0 f rfl) (lg X (A9 rfl rfl) (lg i (n9 rfl X rfl) (lg rfl (l9 rfl i rfl) (lv (n9 rfl rfl rfl) (mv rfl (bt ah (fun y ai=>?_) (fun y ai=>?_))))))))
    ·refine lg y (i5 rfl) (lg y (i5 rfl) (bt ai (fun C aj=>?_) (fun C aj=>?_)))
     ·refine lu C (lu C (lu C (lu C (lg y (J6 rfl C rfl) (lv (n9 rfl y rfl) (av rfl (nq (j9 ?_))))))))
      cases oi aj
      exact ey results206 ⟨K,rfl,f.s⟩
     refine lg C (c7 W9 rfl) (lg C (w8 a5u rfl m0 f rfl) (lg C (q9 underlying33 rfl ac) (lg C (A9 rfl rfl) (lg y (l9 rfl C rfl) (lv (n9 rfl y rfl) (av rfl (nq (j9 ?_))))))))
     cases oi aj
     exact ey results206 ⟨K,rfl,f.s⟩
    refine lu y (lu y (A8 (uu rfl rfl) rfl (A8 (uu rfl rfl) rfl (A8 (uu rfl rfl) rfl (A8 (uu rfl rfl) rfl (lu y (lv (L8 rfl y rfl) (av rfl (nq ?_)))))))))
    refine j9 ?_
    cases oi ai
    exact ey results206 ⟨K,rfl,f.s⟩
   refine lu X (lu X (lu X (lg i (L8 rfl X rfl) (lg rfl (l9 rfl i rfl) (lv (n9 rfl rfl rfl) (mv rfl (lu rfl (lu rfl (A8 (uu rfl rfl) rfl ?_)))))))))
   refine A8 (uu rfl rfl) rfl (A8 (uu rfl rfl) rfl (A8 (uu rfl rfl) rfl (lu rfl (lv (L8 rfl rfl rfl) (av rfl (nq (j9 ?_)))))))
   cases oi ah
   exact ey results206 ⟨K,rfl,f.s⟩
  refine lg s (c7 a0B rfl) (lg s (w8 W1 rfl m0 f rfl) (lg s (q9 underlying23 rfl aG) (lg s (A9 rfl rfl) (lg rfl (l9 rfl s rfl) (lv (n9 rfl rfl rfl) (mv rfl (bt ae (fun o ak=>?_) (fun o ak=>?_))))))))
  ·refine lg o (i5 rfl) (lg o (i5 rfl) (bt ak (fun k al=>?_) (fun k al=>?_)))
   ·refine lu k (lu k (lu k (lu k (A8 (uu rfl rfl) rfl (A8 (uu rfl rfl) rfl (A8 (uu rfl rfl) rfl (lu k (lg o (J6 rfl k rfl) (lv (n9 rfl o rfl) ?_)))))))))
    refine mv rfl (lg rfl (i5 rfl) (lg rfl (i5 rfl) (bt al (fun D am=>?_) (fun D am=>?_))))
    ·refine lu D (lu D (lu D (lu D (lg rfl (J6 rfl D rfl) (lv (n9 rfl rfl rfl) (av rfl (nq (j9 ?_))))))))
     cases oi am
     exact ey results206 ⟨K,rfl,f.s⟩
    refine lg D (c7 W9 rfl) (lg D (w8 a5u rfl m0 f rfl) (lg D (q9 underlying33 rfl ac) (lg D (A9 rfl rfl) (lg rfl (l9 rfl D rfl) (lv (n9 rfl rfl rfl) (av rfl (nq (j9 ?_))))))))
    cases oi am
    exact ey results206 ⟨K,rfl,f.s⟩
   refine lg k (c7 a1w rfl) (lg k (w8 E6 rfl m0 f rfl) (lg k (A9 rfl rfl) (lg k (i5 rfl) (bt al (fun Y an=>?_) (fun Y an=>?_)))))
   ·refine lg Y (c7 a4L rfl) (lg Y (w8 E6 rfl m0 f rfl) (lg Y (A9 rfl rfl) (lg k (n9 rfl Y rfl) (lg o (l9 rfl k rfl) (lv (n9 rfl o rfl) (mv rfl (bt an (fun G ao=>?_) (fun G ao=>?_))))))))
    ·refine lg G (i5 rfl) (lg G (i5 rfl) (bt ao (fun H ap=>?_) (fun H ap=>?_)))
     ·refine lu H (lu H (lu H (lu H (lg G (J6 rfl H rfl) (lv (n9 rfl G rfl) (av rfl (nq (j9 ?_))))))))
      cases oi ap
      exact ey results206 ⟨K,rfl,f.s⟩
     refine lg H (c7 W9 rfl) (lg H (w8 a5u rfl m0 f rfl) (lg H (q9 underlying33 rfl ac) (lg H (A9 rfl rfl) (lg G (l9 rfl H rfl) (lv (n9 rfl G rfl) (av rfl (nq (j9 ?_))))))))
     cases oi ap
     exact ey results206 ⟨K,rfl,f.s⟩
    refine lu G (lu G (A8 (uu rfl rfl) rfl (A8 (uu rfl rfl) rfl (A8 (uu rfl rfl) rfl (A8 (uu rfl rfl) rfl (lu G (lv (L8 rfl G rfl) (av rfl (nq ?_)))))))))
    refine j9 ?_
    cases oi ao
    exact ey results206 ⟨K,rfl,f.s⟩
   refine lu Y (lu Y (lu Y (lg k (L8 rfl Y rfl) (lg o (l9 rfl k rfl) (lv (n9 rfl o rfl) (mv rfl (lu rfl (lu rfl (A8 (uu rfl rfl) rfl ?_)))))))))
   refine A8 (uu rfl rfl) rfl (A8 (uu rfl rfl) rfl (A8 (uu rfl rfl) rfl (lu rfl (lv (L8 rfl rfl rfl) (av rfl (nq (j9 ?_)))))))
   cases oi an
   exact ey results206 ⟨K,rfl,f.s⟩
  refine lu o (lu o (A8 (uu rfl rfl) rfl (A8 (uu rfl rfl) rfl (A8 (uu rfl rfl) rfl (A8 (uu rfl rfl) rfl (A8 (uu rfl rfl) rfl (A8 (uu rfl rfl) rfl (A8 (uu rfl rfl) rfl (A8 (uu rfl rfl) rfl ?_)))))))))
  refine lu o (lv (L8 rfl o rfl) (mv rfl (lu rfl (lu rfl (A8 (uu rfl rfl) rfl (A8 (uu rfl rfl) rfl (A8 (uu rfl rfl) rfl (A8 (uu rfl rfl) rfl (lu rfl ?_)))))))))
  refine lv (L8 rfl rfl rfl) (av rfl (nq (j9 ?_)))
  cases oi ak
  exact ey results206 ⟨K,rfl,f.s⟩
 refine lg W (c7 Z3 rfl) (lg W (w8 G7 rfl m0 f rfl) (lg W (J8 (r:=([]:r4)) rfl rfl) (lv (l9 rfl W rfl) (mv rfl (bt ad (fun I aq=>?_) (fun I aq=>?_))))))
 ·refine lg I (i5 rfl) (lg I (i5 rfl) (bt aq (fun J ar=>?_) (fun J ar=>?_)))
  ·refine lu J (lu J (lu J (lu J (lg I (J6 rfl J rfl) (lv (n9 rfl I rfl) (mv rfl (lg rfl (i5 rfl) (lg rfl (i5 rfl) (bt ar (fun l au=>?_) (fun l au=>?_))))))))))
   ·refine lu l (lu l (lu l (lu l (A8 (uu rfl rfl) rfl (A8 (uu rfl rfl) rfl (A8 (uu rfl rfl) rfl (lu l (lg rfl (J6 rfl l rfl) (lv (n9 rfl rfl rfl) ?_)))))))))
    refine mv rfl (lg rfl (i5 rfl) (lg rfl (i5 rfl) (bt au (fun O aw=>?_) (fun O aw=>?_))))
    ·refine lu O (lu O (lu O (lu O (lg rfl (J6 rfl O rfl) (lv (n9 rfl rfl rfl) (av rfl (nq (j9 ?_))))))))
     cases oi aw
     exact ey results206 ⟨K,rfl,f.s⟩
    refine lg O (c7 W9 rfl) (lg O (w8 a5u rfl m0 f rfl) (lg O (q9 underlying33 rfl ac) (lg O (A9 rfl rfl) (lg rfl (l9 rfl O rfl) (lv (n9 rfl rfl rfl) (av rfl (nq (j9 ?_))))))))
    cases oi aw
    exact ey results206 ⟨K,rfl,f.s⟩
   refine lg l (c7 a1w rfl) (lg l (w8 E6 rfl m0 f rfl) (lg l (A9 rfl rfl) (lg l (i5 rfl) (bt au (fun aa ax=>?_) (fun aa ax=>?_)))))
   ·refine lg aa (c7 a4L rfl) (lg aa (w8 E6 rfl m0 f rfl) (lg aa (A9 rfl rfl) (lg l (n9 rfl aa rfl) (lg rfl (l9 rfl l rfl) (lv (n9 rfl rfl rfl) (mv rfl (bt ax (fun R ay=>?_) (fun R ay=>?_))))))))
    ·refine lg R (i5 rfl) (lg R (i5 rfl) (bt ay (fun S az=>?_) (fun S az=>?_)))
     ·refine lu S (lu S (lu S (lu S (lg R (J6 rfl S rfl) (lv (n9 rfl R rfl) (av rfl (nq (j9 ?_))))))))
      cases oi az
      exact ey results206 ⟨K,rfl,f.s⟩
     refine lg S (c7 W9 rfl) (lg S (w8 a5u rfl m0 f rfl) (lg S (q9 underlying33 rfl ac) (lg S (A9 rfl rfl) (lg R (l9 rfl S rfl) (lv (n9 rfl R rfl) (av rfl (nq (j9 ?_))))))))
     cases oi az
     exact ey results206 ⟨K,rfl,f.s⟩
    refine lu R (lu R (A8 (uu rfl rfl) rfl (A8 (uu rfl rfl) rfl (A8 (uu rfl rfl) rfl (A8 (uu rfl rfl) rfl (lu R (lv (L8 rfl R rfl) (av rfl (nq ?_)))))))))
    refine j9 ?_
    cases oi ay
    exact ey results206 ⟨K,rfl,f.s⟩
   refine lu aa (lu aa (lu aa (lg l (L8 rfl aa rfl) (lg rfl (l9 rfl l rfl) (lv (n9 rfl rfl rfl) (mv rfl (lu rfl (lu rfl (A8 (uu rfl rfl) rfl ?_)))))))))
   refine A8 (uu rfl rfl) rfl (A8 (uu rfl rfl) rfl (A8 (uu rfl rfl) rfl (lu rfl (lv (L8 rfl rfl rfl) (av rfl (nq (j9 ?_)))))))
   cases oi ax
   exact ey results206 ⟨K,rfl,f.s⟩
  refine lg J (c7 a0B rfl) (lg J (w8 W1 rfl m0 f rfl) (lg J (q9 underlying23 rfl aG) (lg J (A9 rfl rfl) (lg I (l9 rfl J rfl) (lv (n9 rfl I rfl) (mv rfl (bt ar (fun q aA=>?_) (fun q aA=>?_))))))))
  ·refine lg q (i5 rfl) (lg q (i5 rfl) (bt aA (fun m aB=>?_) (fun m aB=>?_)))
   ·refine lu m (lu m (lu m (lu m (A8 (uu rfl rfl) rfl (A8 (uu rfl rfl) rfl (A8 (uu rfl rfl) rfl (lu m (lg q (J6 rfl m rfl) (lv (n9 rfl q rfl) ?_)))))))))
    refine mv rfl (lg rfl (i5 rfl) (lg rfl (i5 rfl) (bt aB (fun T aC=>?_) (fun T aC=>?_))))
    ·refine lu T (lu T (lu T (lu T (lg rfl (J6 rfl T rfl) (lv (n9 rfl rfl rfl) (av rfl (nq (j9 ?_))))))))
     cases oi aC
     exact ey results206 ⟨K,rfl,f.s⟩
    refine lg T (c7 W9 rfl) (lg T (w8 a5u rfl m0 f rfl) (lg T (q9 underlying33 rfl ac) (lg T (A9 rfl rfl) (lg rfl (l9 rfl T rfl) (lv (n9 rfl rfl rfl) (av rfl (nq (j9 ?_))))))))
    cases oi aC
    exact ey results206 ⟨K,rfl,f.s⟩
   refine lg m (c7 a1w rfl) (lg m (w8 E6 rfl m0 f rfl) (lg m (A9 rfl rfl) (lg m (i5 rfl) (bt aB (fun ab aD=>?_) (fun ab aD=>?_)))))
   ·refine lg ab (c7 a4L rfl) (lg ab (w8 E6 rfl m0 f rfl) (lg ab (A9 rfl rfl) (lg m (n9 rfl ab rfl) (lg q (l9 rfl m rfl) (lv (n9 rfl q rfl) (mv rfl (bt aD (fun U aE=>?_) (fun U aE=>?_))))))))
    ·refine lg U (i5 rfl) (lg U (i5 rfl) (bt aE (fun V aF=>?_) (fun V aF=>?_)))
     ·refine lu V (lu V (lu V (lu V (lg U (J6 rfl V rfl) (lv (n9 rfl U rfl) (av rfl (nq (j9 ?_))))))))
      cases oi aF
      exact ey results206 ⟨K,rfl,f.s⟩
     refine lg V (c7 W9 rfl) (lg V (w8 a5u rfl m0 f rfl) (lg V (q9 underlying33 rfl ac) (lg V (A9 rfl rfl) (lg U (l9 rfl V rfl) (lv (n9 rfl U rfl) (av rfl (nq (j9 ?_))))))))
     cases oi aF
     exact ey results206 ⟨K,rfl,f.s⟩
    refine lu U (lu U (A8 (uu rfl rfl) rfl (A8 (uu rfl rfl) rfl (A8 (uu rfl rfl) rfl (A8 (uu rfl rfl) rfl (lu U (lv (L8 rfl U rfl) (av rfl (nq ?_)))))))))
    refine j9 ?_
    cases oi aE
    exact ey results206 ⟨K,rfl,f.s⟩
   refine lu ab (lu ab (lu ab (lg m (L8 rfl ab rfl) (lg q (l9 rfl m rfl) (lv (n9 rfl q rfl) (mv rfl (lu rfl (lu rfl (A8 (uu rfl rfl) rfl ?_)))))))))
   refine A8 (uu rfl rfl) rfl (A8 (uu rfl rfl) rfl (A8 (uu rfl rfl) rfl (lu rfl (lv (L8 rfl rfl rfl) (av rfl (nq (j9 ?_)))))))
   cases oi aD
   exact ey results206 ⟨K,rfl,f.s⟩
  refine lu q (lu q (A8 (uu rfl rfl) rfl (A8 (uu rfl rfl) rfl (A8 (uu rfl rfl) rfl (A8 (uu rfl rfl) rfl (A8 (uu rfl rfl) rfl (A8 (uu rfl rfl) rfl (A8 (uu rfl rfl) rfl (A8 (uu rfl rfl) rfl ?_)))))))))
  refine lu q (lv (L8 rfl q rfl) (mv rfl (lu rfl (lu rfl (A8 (uu rfl rfl) rfl (A8 (uu rfl rfl) rfl (A8 (uu rfl rfl) rfl (A8 (uu rfl rfl) rfl (lu rfl ?_)))))))))
  refine lv (L8 rfl rfl rfl) (av rfl (nq (j9 ?_)))
  cases oi aA
  exact ey results206 ⟨K,rfl,f.s⟩
 refine lu I (lu I (A8 (uu rfl rfl) rfl (A8 (uu rfl rfl) rfl (A8 (uu rfl rfl) rfl (A8 (uu rfl rfl) rfl (lu I (lv (L8 rfl I rfl) (mv rfl (lu rfl ?_)))))))))
 refine lu rfl (A8 (uu rfl rfl) rfl (A8 (uu rfl rfl) rfl (A8 (uu rfl rfl) rfl (A8 (uu rfl rfl) rfl (A8 (uu rfl rfl) rfl (A8 (uu rfl rfl) rfl (A8 (uu rfl rfl) rfl (A8 (uu rfl rfl) rfl (lu rfl ?_)))))))))
 refine lv (L8 rfl rfl rfl) (mv rfl (lu rfl (lu rfl (A8 (uu rfl rfl) rfl (A8 (uu rfl rfl) rfl (A8 (uu rfl rfl) rfl (A8 (uu rfl rfl) rfl (lu rfl (lv (L8 rfl rfl rfl) ?_)))))))))
 refine av rfl (nq (j9 ?_))
 cases oi aq
 exact ey results206 ⟨K,rfl,f.s⟩

theorem b1F {q0:r4}{r:Bool}(hS:SH w K [] w K [])(s:q0.length≤maxLen)(hm:a2b F q0=some r):
  Calls prog 207 #[sv q0] w (R_b w K r):=by
 rw [a2b] at hm
 refine ci func207 rfl ntmps207 (sr (lv (O6 rfl) (O7 (lv (N2 rfl) (nq ?_)))))
 obtain⟨I,J,f⟩:=ob hm
 refine l4 (IE I w K [] K [(0,sv q0)] []) ?_ ?_
 ·refine j7 ?_
  obtain⟨ao,O,x⟩:=ob J
  refine qw (fun (i:Int)=>IW w K [] K [(0,sv q0),(3,V6 i)] [] (i7 i)) O ⟨K,rfl,hS,kr,I5⟩ ?_
  rintro i _ ap aq R y ⟨k,rfl,d,A,ar⟩
  refine o4 (sr (mv rfl (mv rfl (lv (J9 underlying9 rfl) (lv (u7 rfl rfl) (nq (D5 R rfl (fun S l=>?_) (fun S l=>?_))))))))
  ·refine j3 (qs (j7 (o4 ?_)))
   obtain⟨T,U,V⟩:=ob l
   refine l4 (IV w K [] k [(0,sv q0),(3,V6 i),(28,.bool T)] []) ?_ ?_
   ·refine j5 (mv rfl (mv rfl ?_))
    obtain⟨au,W,X⟩:=ob U
    refine lv (N9 underlying9 rfl rfl W) (lv (a8H (b:=(42:UInt8)) rfl rfl) (mv rfl (bt X (fun a m=>?_) (fun a m=>?_))))
    ·refine lg a (i5 rfl) (lg a (i5 rfl) ?_)
     obtain⟨aw,Y,aa⟩:=ob m
     refine lg a (N9 underlying9 rfl rfl Y) (lg a (a8H (b:=(63:UInt8)) rfl rfl) (lv (n9 rfl a rfl) (mv rfl (bt aa (fun c o=>?_) (fun c o=>?_)))))
     ·refine lg c (i5 rfl) (lg c (i5 rfl) (lg c (i5 rfl) (lg c (y7 rfl rfl) ?_)))
      obtain⟨ab,B,ac⟩:=ob o
      refine lg c (c0G underlying9 rfl rfl rfl B) ?_
      obtain⟨ax,ad,ae⟩:=ob ac
      refine A3 (wg rfl rfl c) rfl (A2 (vs:=[sv ab]) b0m rfl) (H9 F d.enter0 (a1V s B) ad) ?_
      rintro ay az ⟨af,rfl,C⟩
      refine⟨_,rfl,?_⟩
      have ag:=(d.c0 C).t0
      refine lg c (A4 rfl) (lv (n9 rfl c rfl) (i8 ?_))
      cases oi ae
      exact qd ⟨af,rfl,ag,C.le⟩
     iterate 7 refine lu c ?_
     refine lv (L8 rfl c rfl) (i8 ?_)
     cases oi o
     exact qd ⟨k,rfl,d,kr⟩
    refine lu a (lu a (lu a (lu a (lv (L8 rfl a rfl) (mv rfl ?_)))))
    iterate 7 refine lu rfl ?_
    refine lv (L8 rfl rfl rfl) (i8 ?_)
    cases oi m
    exact qd ⟨k,rfl,d,kr⟩
   rintro _ aA ⟨D,rfl,G,ah⟩
   refine l5 (D5 V rfl (fun ai q=>?_) (fun ai q=>?_))
   ·refine sr (lv (O6 rfl) (nq (j9 (i9 (c9 (c9 ?_))))))
    cases oi q
    cases y _ rfl
    refine i9 (c9 ?_)
    cases oi x
    refine c9 ?_
    cases oi f
    exact ey results207 ⟨D,rfl,G⟩
   refine j3 (x8 (l5 (j5 (mv rfl (lv (y7 rfl rfl) (av rfl (i8 ?_)))))))
   cases oi q
   exact qd ⟨_,rfl,D,rfl,G,(A.trans ah),(u0 _)⟩
  refine y4 (g8 (g8 ?_))
  cases oi l
  cases y _ rfl
  refine l6 ?_
  cases oi x
  exact qd ⟨_,k,rfl,rfl,d,A⟩
 rintro _ w9 ⟨s5,K6,rfl,rfl,H,aE⟩
 have f:=E9 f
 refine qr (mv rfl (lv (J9 underlying9 rfl) ?_))
 obtain⟨aF,aj,ak⟩:=ob f
 refine lk a7T (I9 F H.enter0 (a0Z s) (by decide :i7 1) (by decide :i7 12) aj) ?_
 rintro aG aH ⟨al,rfl,am⟩
 have an:=(H.c0 am).t0
 refine av rfl (nq (j9 ?_))
 cases oi ak
 exact ey results207 ⟨al,rfl,an⟩

theorem b3P {q0:q7}{r:Bool}(hS:SH w K [] w K [])(C:i7 q0.Kind)(k:q0.Field.length≤maxLen)(i:b7 D9 K A a b q0.Words)(l:i7 q0.From)(s:i7 q0.To)(m:b7 F4 K B c d q0.Kids)(hm:P3 F q0=some r):
  Calls prog 168 #[.agg #[V6 q0.Kind,sv q0.Field,V3 A a b,V6 q0.From,V6 q0.To,V3 B c d]] w (R_b w K r):=by
 rw [P3] at hm
 refine ci func168 rfl ntmps168 (sr (bx rfl hS fun aO eT bU=>?_))
 have f:SH _ _ _ _ _ [s7 aO [V6 q0.Kind,sv q0.Field,V3 A a b,V6 q0.From,V6 q0.To,V3 B c d] 35]:=bU
 refine lv (O6 rfl) (nr (fl W9 rfl a5u m0 f rfl (lv (q9 underlying33 rfl m) (av rfl (O7 (fl a6x rfl E6 m0 f rfl (nq (j7 (sr ?_)))))))))
 refine lv (A9 rfl rfl) (av rfl (nq (R9 rfl (fun aP=>?_) (fun aP=>?_))))
 ·have aQ:=a1a aP hm
  refine sr (lv (j6 (ds:=[V6 q0.Kind,sv q0.Field,V3 A a b,V6 q0.From,V6 q0.To,V3 B c d]) B1 rfl m0 f rfl rfl) ?_)
  obtain⟨eU,bV,bW⟩:=ob aQ
  refine lk b0k (R7 F f.enter0 C k i l s m bV) ?_
  rintro eV eW ⟨bX,rfl,bY⟩
  have bZ:=(f.c0 bY).t1
  refine av rfl (nq (j9 (i9 (c9 ?_))))
  cases oi bW
  exact ey results168 ⟨bX,rfl,bZ.s⟩
 have aQ:=a09 aP hm
 refine sr (lv (A9 rfl rfl) (av rfl (nq (D5 aQ rfl (fun ca aR=>?_) (fun ca aR=>?_)))))
 ·refine o4 ?_
  obtain⟨cb,cc,cd⟩:=ob aR
  refine l4 (IV w K [] K [(2,.bool cb)] []) ?_ ?_
  ·refine j5 (lv (j6 (ds:=[V6 q0.Kind,sv q0.Field,V3 A a b,V6 q0.From,V6 q0.To,V3 B c d]) B1 rfl m0 f rfl rfl) ?_)
   obtain⟨eX,ce,cf⟩:=ob cc
   refine lk b0k (R7 F f.enter0 C k i l s m ce) ?_
   rintro eY eZ ⟨cg,rfl,au⟩
   have aA:=(f.c0 au).t1
   refine mv rfl (bt cf (fun D aS=>?_) (fun D aS=>?_))
   ·refine lg D (c7 Z3 rfl) (lg D (w8 G7 rfl m0 aA rfl) ?_)
    obtain⟨fb,ch,cj⟩:=ob aS
    refine A3 (wg rfl rfl D) rfl (A2 (vs:=[sv q0.Field]) b0m rfl) (H9 F aA.enter0 k ch) ?_
    rintro fc fd ⟨ck,rfl,aB⟩
    refine⟨_,rfl,?_⟩
    have aC:=(aA.c0 aB).t1
    refine lv (n9 rfl D rfl) (mv rfl (bt cj (fun G aT=>?_) (fun G aT=>?_)))
    ·refine lg G (c7 a0B rfl) (lg G (w8 W1 rfl m0 aC rfl) ?_)
     obtain⟨fe,cl,cm⟩:=ob aT
     refine A3 (wg rfl rfl G) rfl (A2 (vs:=[V3 A a b,V6 1]) c4C rfl) (a4V F aC.enter0 (i.mono (au.le.trans aB.le)) (by decide :i7 1) cl) ?_
     rintro fg fh ⟨cn,rfl,bH⟩
     refine⟨_,rfl,?_⟩
     have cp:=(aC.c0 bH).t1
     refine lv (n9 rfl G rfl) (av rfl (i8 ?_))
     cases oi cm
     exact qd ⟨cn,rfl,cp.s,((au.le.trans aB.le).trans bH.le)⟩
    refine lu G (lu G (lu G (lv (L8 rfl G rfl) (av rfl (i8 ?_)))))
    cases oi aT
    exact qd ⟨ck,rfl,aC.s,(au.le.trans aB.le)⟩
   refine lu D (lu D (lu D (lv (L8 rfl D rfl) (mv rfl (lu rfl (lu rfl (lu rfl (lv (L8 rfl rfl rfl) (av rfl ?_)))))))))
   refine i8 ?_
   cases oi aS
   exact qd ⟨cg,rfl,aA.s,au.le⟩
  rintro _ fi ⟨cq,rfl,cr,fj⟩
  refine l5 (j9 (i9 (c9 ?_)))
  cases oi cd
  exact ey results168 ⟨cq,rfl,cr⟩
 refine sr (lv (A9 rfl rfl) (av rfl (nq (D5 aR rfl (fun cs aU=>?_) (fun cs aU=>?_)))))
 ·refine o4 ?_
  obtain⟨ct,cu,cv⟩:=ob aU
  refine l4 (IV w K [] K [(2,.bool ct)] []) ?_ ?_
  ·refine j5 (lv (j6 (ds:=[V6 q0.Kind,sv q0.Field,V3 A a b,V6 q0.From,V6 q0.To,V3 B c d]) B1 rfl m0 f rfl rfl) ?_)
   obtain⟨fk,cw,cx⟩:=ob cu
   refine lk b0k (R7 F f.enter0 C k i l s m cw) ?_
   rintro fm fn ⟨cy,rfl,H⟩
   have aD:=(f.c0 H).t1
   refine mv rfl (bt cx (fun I aV=>?_) (fun I aV=>?_))
   ·refine lg I (c7 Z3 rfl) (lg I (w8 G7 rfl m0 aD rfl) ?_)
    obtain⟨fo,cz,cA⟩:=ob aV
    refine A3 (wg rfl rfl I) rfl (A2 (vs:=[sv q0.Field]) b0m rfl) (H9 F aD.enter0 k cz) ?_
    rintro fp fq ⟨cB,rfl,af⟩
    refine⟨_,rfl,?_⟩
    have aE:=(aD.c0 af).t1
    refine lv (n9 rfl I rfl) (mv rfl (bt cA (fun J aW=>?_) (fun J aW=>?_)))
    ·refine lg J (c7 a0B rfl) (lg J (w8 W1 rfl m0 aE rfl) ?_)
     obtain⟨fr,cC,cD⟩:=ob aW
     refine A3 (wg rfl rfl J) rfl (A2 (vs:=[V3 A a b,V6 4]) c4C rfl) (a4V F aE.enter0 (i.mono (H.le.trans af.le)) (by decide :i7 4) cC) ?_
     rintro fs ft ⟨aX,rfl,ao⟩
     refine⟨_,rfl,?_⟩
     have ag:=(aE.c0 ao).t1
     refine lv (n9 rfl J rfl) (mv rfl (bt cD (fun o aY=>?_) (fun o aY=>?_)))
     ·refine lg o (c7 a0B rfl) (lg o (w8 W1 rfl m0 ag rfl) (lg o (q9 underlying23 rfl (i.mono ((H.le.trans af.le).trans ao.le))) (lg o (E7 rfl rfl) (lv (n9 rfl o rfl) (mv rfl (bt aY (fun O aZ=>?_) (fun O aZ=>?_)))))))
      ·refine lg O (c7 a4L rfl) (lg O (w8 E6 rfl m0 ag rfl) (lg O (A9 rfl rfl) (lv (n9 rfl O rfl) (mv rfl (bt aZ (fun R ba=>?_) (fun R ba=>?_))))))
       ·refine lg R (c7 a1w rfl) (lg R (w8 E6 rfl m0 ag rfl) ?_)
        obtain⟨fu,cE,cF⟩:=ob ba
        refine A3 (wg rfl rfl R) rfl (A2 (vs:=[V6 q0.From,V6 0,V6 5]) a7T rfl) (I9 F ag.enter0 l I5 (by decide :i7 5) cE) ?_
        rintro fv fw ⟨cG,rfl,bI⟩
        refine⟨_,rfl,?_⟩
        have cH:=(ag.c0 bI).t1
        refine lv (n9 rfl R rfl) (av rfl (i8 ?_))
        cases oi cF
        exact qd ⟨cG,rfl,cH.s,(((H.le.trans af.le).trans ao.le).trans bI.le)⟩
       refine lu R (lu R (lu R (lv (L8 rfl R rfl) (av rfl (i8 ?_)))))
       cases oi ba
       exact qd ⟨aX,rfl,ag.s,((H.le.trans af.le).trans ao.le)⟩
      refine lu O (lu O (lu O (lv (L8 rfl O rfl) (mv rfl (lu rfl (lu rfl (lu rfl (lv (L8 rfl rfl rfl) (av rfl ?_)))))))))
      refine i8 ?_
      cases oi aZ
      exact qd ⟨aX,rfl,ag.s,((H.le.trans af.le).trans ao.le)⟩
     refine lu o (lu o (lu o (lu o (lv (L8 rfl o rfl) (mv rfl (lu rfl (lu rfl (lu rfl (lv (L8 rfl rfl rfl) ?_)))))))))
     refine mv rfl (lu rfl (lu rfl (lu rfl (lv (L8 rfl rfl rfl) (av rfl (i8 ?_))))))
     cases oi aY
     exact qd ⟨aX,rfl,ag.s,((H.le.trans af.le).trans ao.le)⟩
    refine lu J (lu J (lu J (lv (L8 rfl J rfl) (mv rfl (lu rfl (lu rfl (lu rfl (lu rfl (lv (L8 rfl rfl rfl) ?_)))))))))
    refine mv rfl (lu rfl (lu rfl (lu rfl (lv (L8 rfl rfl rfl) (mv rfl (lu rfl (lu rfl (lu rfl (lv (L8 rfl rfl rfl) ?_)))))))))
    refine av rfl (i8 ?_)
    cases oi aW
    exact qd ⟨cB,rfl,aE.s,(H.le.trans af.le)⟩
   refine lu I (lu I (lu I (lv (L8 rfl I rfl) (mv rfl (lu rfl (lu rfl (lu rfl (lv (L8 rfl rfl rfl) (mv rfl ?_)))))))))
   refine lu rfl (lu rfl (lu rfl (lu rfl (lv (L8 rfl rfl rfl) (mv rfl (lu rfl (lu rfl (lu rfl (lv (L8 rfl rfl rfl) ?_)))))))))
   refine mv rfl (lu rfl (lu rfl (lu rfl (lv (L8 rfl rfl rfl) (av rfl (i8 ?_))))))
   cases oi aV
   exact qd ⟨cy,rfl,aD.s,H.le⟩
  rintro _ fx ⟨cI,rfl,cJ,fy⟩
  refine l5 (j9 (i9 (c9 ?_)))
  cases oi cv
  exact ey results168 ⟨cI,rfl,cJ⟩
 refine sr (lv (A9 rfl rfl) (av rfl (nq (D5 aU rfl (fun cK bb=>?_) (fun cK bb=>?_)))))
 ·refine o4 ?_
  obtain⟨cL,cM,cN⟩:=ob bb
  refine l4 (IV w K [] K [(2,.bool cL)] []) ?_ ?_
  ·refine j5 (lv (j6 (ds:=[V6 q0.Kind,sv q0.Field,V3 A a b,V6 q0.From,V6 q0.To,V3 B c d]) B1 rfl m0 f rfl rfl) ?_)
   obtain⟨fz,cO,cP⟩:=ob cM
   refine lk b0k (R7 F f.enter0 C k i l s m cO) ?_
   rintro fA fB ⟨cQ,rfl,ai⟩
   have aF:=(f.c0 ai).t1
   refine mv rfl (bt cP (fun S bc=>?_) (fun S bc=>?_))
   ·refine lg S (c7 Z3 rfl) (lg S (w8 G7 rfl m0 aF rfl) ?_)
    obtain⟨fC,cR,cS⟩:=ob bc
    refine A3 (wg rfl rfl S) rfl (A2 (vs:=[sv q0.Field]) b0m rfl) (H9 F aF.enter0 k cR) ?_
    rintro fD fE ⟨cT,rfl,ap⟩
    refine⟨_,rfl,?_⟩
    have aG:=(aF.c0 ap).t1
    refine lv (n9 rfl S rfl) (mv rfl (bt cS (fun T bd=>?_) (fun T bd=>?_)))
    ·refine lg T (c7 a0B rfl) (lg T (w8 W1 rfl m0 aG rfl) ?_)
     obtain⟨fF,cU,cV⟩:=ob bd
     refine A3 (wg rfl rfl T) rfl (A2 (vs:=[V3 A a b,V6 1]) c4C rfl) (a4V F aG.enter0 (i.mono (ai.le.trans ap.le)) (by decide :i7 1) cU) ?_
     rintro fG fH ⟨bJ,rfl,aH⟩
     refine⟨_,rfl,?_⟩
     have aq:=(aG.c0 aH).t1
     refine lv (n9 rfl T rfl) (mv rfl (bt cV (fun U be=>?_) (fun U be=>?_)))
     ·refine lg U (c7 a4L rfl) (lg U (w8 E6 rfl m0 aq rfl) (lg U (A9 rfl rfl) (lv (n9 rfl U rfl) (mv rfl (bt be (fun V bf=>?_) (fun V bf=>?_))))))
      ·refine lg V (c7 a1w rfl) (lg V (w8 E6 rfl m0 aq rfl) ?_)
       obtain⟨fI,cW,cX⟩:=ob bf
       refine A3 (wg rfl rfl V) rfl (A2 (vs:=[V6 q0.From,V6 1,V6 2]) a7T rfl) (I9 F aq.enter0 l (by decide :i7 1) (by decide :i7 2) cW) ?_
       rintro fJ fK ⟨cY,rfl,bK⟩
       refine⟨_,rfl,?_⟩
       have cZ:=(aq.c0 bK).t1
       refine lv (n9 rfl V rfl) (av rfl (i8 ?_))
       cases oi cX
       exact qd ⟨cY,rfl,cZ.s,(((ai.le.trans ap.le).trans aH.le).trans bK.le)⟩
      refine lu V (lu V (lu V (lv (L8 rfl V rfl) (av rfl (i8 ?_)))))
      cases oi bf
      exact qd ⟨bJ,rfl,aq.s,((ai.le.trans ap.le).trans aH.le)⟩
     refine lu U (lu U (lu U (lv (L8 rfl U rfl) (mv rfl (lu rfl (lu rfl (lu rfl (lv (L8 rfl rfl rfl) (av rfl ?_)))))))))
     refine i8 ?_
     cases oi be
     exact qd ⟨bJ,rfl,aq.s,((ai.le.trans ap.le).trans aH.le)⟩
    refine lu T (lu T (lu T (lv (L8 rfl T rfl) (mv rfl (lu rfl (lu rfl (lu rfl (lv (L8 rfl rfl rfl) (mv rfl ?_)))))))))
    refine lu rfl (lu rfl (lu rfl (lv (L8 rfl rfl rfl) (av rfl (i8 ?_)))))
    cases oi bd
    exact qd ⟨cT,rfl,aG.s,(ai.le.trans ap.le)⟩
   refine lu S (lu S (lu S (lv (L8 rfl S rfl) (mv rfl (lu rfl (lu rfl (lu rfl (lv (L8 rfl rfl rfl) (mv rfl ?_)))))))))
   refine lu rfl (lu rfl (lu rfl (lv (L8 rfl rfl rfl) (mv rfl (lu rfl (lu rfl (lu rfl (lv (L8 rfl rfl rfl) (av rfl ?_)))))))))
   refine i8 ?_
   cases oi bc
   exact qd ⟨cQ,rfl,aF.s,ai.le⟩
  rintro _ fL ⟨da,rfl,db,fM⟩
  refine l5 (j9 (i9 (c9 ?_)))
  cases oi cN
  exact ey results168 ⟨da,rfl,db⟩
 refine sr (lv (A9 rfl rfl) (av rfl (nq (D5 bb rfl (fun dc bg=>?_) (fun dc bg=>?_)))))
 ·refine o4 ?_
  obtain⟨dd,de,df⟩:=ob bg
  refine l4 (IV w K [] K [(2,.bool dd)] []) ?_ ?_
  ·refine j5 (lv (j6 (ds:=[V6 q0.Kind,sv q0.Field,V3 A a b,V6 q0.From,V6 q0.To,V3 B c d]) B1 rfl m0 f rfl rfl) ?_)
   obtain⟨fN,dg,dh⟩:=ob de
   refine lk b0k (R7 F f.enter0 C k i l s m dg) ?_
   rintro fO fP ⟨di,rfl,W⟩
   have aI:=(f.c0 W).t1
   refine mv rfl (bt dh (fun X bh=>?_) (fun X bh=>?_))
   ·refine lg X (c7 Z3 rfl) (lg X (w8 G7 rfl m0 aI rfl) ?_)
    obtain⟨fQ,dj,dk⟩:=ob bh
    refine A3 (wg rfl rfl X) rfl (A2 (vs:=[sv q0.Field]) b0m rfl) (H9 F aI.enter0 k dj) ?_
    rintro fR fS ⟨bL,rfl,ah⟩
    refine⟨_,rfl,?_⟩
    have aj:=(aI.c0 ah).t1
    refine lv (n9 rfl X rfl) (mv rfl (bt dk (fun q bi=>?_) (fun q bi=>?_)))
    ·refine lg q (c7 a0B rfl) (lg q (w8 W1 rfl m0 aj rfl) (lg q (q9 underlying23 rfl (i.mono (W.le.trans ah.le))) (lg q (A9 rfl rfl) (lv (n9 rfl q rfl) (mv rfl (bt bi (fun Y bj=>?_) (fun Y bj=>?_)))))))
     ·refine lg Y (c7 a0B rfl) (lg Y (w8 W1 rfl m0 aj rfl) ?_)
      obtain⟨bM,dl,dm⟩:=ob bj
      refine N1 (t:=D9) (wg rfl rfl Y) rfl underlying23 G7 rfl rfl (i.mono (W.le.trans ah.le)) dl fun dn dp fT dq dr=>?_
      obtain⟨rfl,dt⟩:=dq
      have du:F1 _ dn dp [sv bM]:=dr
      refine lg Y (y9 G7 rfl aj (du 0 _ rfl)) ?_
      obtain⟨fU,dv,dw⟩:=ob dm
      refine A3 (wg rfl rfl Y) rfl (A2 (vs:=[sv bM]) c6k rfl) (b1F F aj.enter0 dt dv) ?_
      rintro fV fW ⟨dx,rfl,aJ⟩
      refine⟨_,rfl,?_⟩
      have aw:=(aj.c0 aJ).t1
      refine lv (n9 rfl Y rfl) (mv rfl (bt dw (fun x bk=>?_) (fun x bk=>?_)))
      ·refine lg x (c7 a0B rfl) (lg x (w8 W1 rfl m0 aw rfl) ?_)
       obtain⟨bN,dy,dz⟩:=ob bk
       refine N1 (t:=D9) (wg rfl rfl x) rfl underlying23 G7 rfl rfl (i.mono ((W.le.trans ah.le).trans aJ.le)) dy fun dA dB fX dC dD=>?_
       obtain⟨rfl,dE⟩:=dC
       have dF:F1 _ dA dB [sv bN]:=dD
       refine lg x (y9 G7 rfl aw (dF 0 _ rfl)) ?_
       obtain⟨fY,dG,dH⟩:=ob dz
       refine A3 (wg rfl rfl x) rfl (A2 (vs:=[sv bN]) b0m rfl) (H9 F aw.enter0 dE dG) ?_
       rintro fZ ga ⟨dI,rfl,bO⟩
       refine⟨_,rfl,?_⟩
       have dJ:=(aw.c0 bO).t1
       refine lg x (A4 rfl) (lv (n9 rfl x rfl) (av rfl (i8 ?_)))
       cases oi dH
       exact qd ⟨dI,rfl,dJ.s,(((W.le.trans ah.le).trans aJ.le).trans bO.le)⟩
      iterate 6 refine lu x ?_
      refine lv (L8 rfl x rfl) (av rfl (i8 ?_))
      cases oi bk
      exact qd ⟨dx,rfl,aw.s,((W.le.trans ah.le).trans aJ.le)⟩
     iterate 5 refine lu Y ?_
     refine lv (L8 rfl Y rfl) (mv rfl ?_)
     iterate 6 refine lu rfl ?_
     refine lv (L8 rfl rfl rfl) (av rfl (i8 ?_))
     cases oi bj
     exact qd ⟨bL,rfl,aj.s,(W.le.trans ah.le)⟩
    refine lu q (lu q (lu q (lu q (lv (L8 rfl q rfl) (mv rfl ?_)))))
    iterate 5 refine lu rfl ?_
    refine lv (L8 rfl rfl rfl) (mv rfl ?_)
    iterate 6 refine lu rfl ?_
    refine lv (L8 rfl rfl rfl) (av rfl (i8 ?_))
    cases oi bi
    exact qd ⟨bL,rfl,aj.s,(W.le.trans ah.le)⟩
   refine lu X (lu X (lu X (lv (L8 rfl X rfl) (mv rfl (lu rfl (lu rfl (lu rfl (lu rfl (lv (L8 rfl rfl rfl) ?_)))))))))
   refine mv rfl ?_
   iterate 5 refine lu rfl ?_
   refine lv (L8 rfl rfl rfl) (mv rfl ?_)
   iterate 6 refine lu rfl ?_
   refine lv (L8 rfl rfl rfl) (av rfl (i8 ?_))
   cases oi bh
   exact qd ⟨di,rfl,aI.s,W.le⟩
  rintro _ gb ⟨dK,rfl,dL,gc⟩
  refine l5 (j9 (i9 (c9 ?_)))
  cases oi df
  exact ey results168 ⟨dK,rfl,dL⟩
 refine sr (lv (A9 rfl rfl) (av rfl (nq (D5 bg rfl (fun dM bl=>?_) (fun dM bl=>?_)))))
 ·refine o4 ?_
  obtain⟨dN,dO,dP⟩:=ob bl
  refine l4 (IV w K [] K [(2,.bool dN)] []) ?_ ?_
  ·refine j5 (lv (j6 (ds:=[V6 q0.Kind,sv q0.Field,V3 A a b,V6 q0.From,V6 q0.To,V3 B c d]) B1 rfl m0 f rfl rfl) ?_)
   obtain⟨gd,dQ,dR⟩:=ob dO
   refine lk b0k (R7 F f.enter0 C k i l s m dQ) ?_
   rintro ge gg ⟨dS,rfl,ax⟩
   have aK:=(f.c0 ax).t1
   refine mv rfl (bt dR (fun aa bm=>?_) (fun aa bm=>?_))
   ·refine lg aa (c7 Z3 rfl) (lg aa (w8 G7 rfl m0 aK rfl) ?_)
    obtain⟨gj,dT,dU⟩:=ob bm
    refine A3 (wg rfl rfl aa) rfl (A2 (vs:=[sv q0.Field]) b0m rfl) (H9 F aK.enter0 k dT) ?_
    rintro gk gl ⟨dV,rfl,aL⟩
    refine⟨_,rfl,?_⟩
    have aM:=(aK.c0 aL).t1
    refine lv (n9 rfl aa rfl) (mv rfl (bt dU (fun ab bn=>?_) (fun ab bn=>?_)))
    ·refine lg ab (c7 a1w rfl) (lg ab (w8 E6 rfl m0 aM rfl) ?_)
     obtain⟨gm,dW,dX⟩:=ob bn
     refine A3 (wg rfl rfl ab) rfl (A2 (vs:=[V6 q0.From,V6 0,V6 999999999]) a7T rfl) (I9 F aM.enter0 l I5 (by decide :i7 999999999) dW) ?_
     rintro go gp ⟨dY,rfl,bo⟩
     refine⟨_,rfl,?_⟩
     have ay:=(aM.c0 bo).t1
     refine lv (n9 rfl ab rfl) (mv rfl (bt dX (fun ac bp=>?_) (fun ac bp=>?_)))
     ·refine lg ac (c7 a4L rfl) (lg ac (w8 E6 rfl m0 ay rfl) (lg ac (c7 a1w rfl) (lg ac (w8 E6 rfl m0 ay rfl) ?_)))
      obtain⟨gq,dZ,ea⟩:=ob bp
      refine A3 (wg rfl rfl ac) rfl (A2 (vs:=[V6 q0.To,V6 q0.From,V6 999999999]) a7T rfl) (I9 F ay.enter0 s l (by decide :i7 999999999) dZ) ?_
      rintro gr gv ⟨eb,rfl,bP⟩
      refine⟨_,rfl,?_⟩
      have ec:=(ay.c0 bP).t1
      refine lv (n9 rfl ac rfl) (av rfl (i8 ?_))
      cases oi ea
      exact qd ⟨eb,rfl,ec.s,(((ax.le.trans aL.le).trans bo.le).trans bP.le)⟩
     iterate 5 refine lu ac ?_
     refine lv (L8 rfl ac rfl) (av rfl (i8 ?_))
     cases oi bp
     exact qd ⟨dY,rfl,ay.s,((ax.le.trans aL.le).trans bo.le)⟩
    refine lu ab (lu ab (lu ab (lv (L8 rfl ab rfl) (mv rfl ?_))))
    iterate 5 refine lu rfl ?_
    refine lv (L8 rfl rfl rfl) (av rfl (i8 ?_))
    cases oi bn
    exact qd ⟨dV,rfl,aM.s,(ax.le.trans aL.le)⟩
   refine lu aa (lu aa (lu aa (lv (L8 rfl aa rfl) (mv rfl (lu rfl (lu rfl (lu rfl (lv (L8 rfl rfl rfl) (mv rfl ?_)))))))))
   iterate 5 refine lu rfl ?_
   refine lv (L8 rfl rfl rfl) (av rfl (i8 ?_))
   cases oi bm
   exact qd ⟨dS,rfl,aK.s,ax.le⟩
  rintro _ gw ⟨ed,rfl,ee,gx⟩
  refine l5 (j9 (i9 (c9 ?_)))
  cases oi dP
  exact ey results168 ⟨ed,rfl,ee⟩
 refine o4 (sr (lv (A9 rfl rfl) (av rfl (nq ?_))))
 obtain⟨ef,eg,eh⟩:=ob bl
 refine l4 (IV w K [] K [(1,pt aO),(3,V6 (q0.Kids.length:Int)),(8,V6 q0.Kind),(132,.bool ef)] [s7 aO [V6 q0.Kind,sv q0.Field,V3 A a b,V6 q0.From,V6 q0.To,V3 B c d] 35]) ?_ ?_
 ·refine D5 eg rfl (fun ei bq=>?_) (fun ei bq=>?_)
  ·refine j3 ?_
   cases oi bq
   exact qd ⟨K,rfl,f,kr⟩
  refine j5 (lv (A9 rfl rfl) (av rfl (i8 ?_)))
  cases oi bq
  exact qd ⟨K,rfl,f,kr⟩
 rintro _ gy ⟨aN,rfl,y,ar⟩
 refine l5 (D5 eh rfl (fun ej br=>?_) (fun ej br=>?_))
 ·refine o4 ?_
  obtain⟨ek,el,em⟩:=ob br
  refine l4 (IV w K [] aN [(2,.bool ek)] []) ?_ ?_
  ·refine j5 (lv (j6 (ds:=[V6 q0.Kind,sv q0.Field,V3 A a b,V6 q0.From,V6 q0.To,V3 B c d]) B1 rfl m0 y rfl rfl) ?_)
   obtain⟨gz,en,eo⟩:=ob el
   refine lk b0k (R7 F y.enter0 C k (i.mono ar) l s (m.mono ar) en) ?_
   rintro gA gB ⟨ep,rfl,bs⟩
   have bu:=(y.c0 bs).t1
   refine mv rfl (bt eo (fun ak bv=>?_) (fun ak bv=>?_))
   ·refine lg ak (i5 rfl) ?_
    obtain⟨gC,eq,es⟩:=ob bv
    refine A3 (wg rfl rfl ak) rfl (A2 (vs:=[V6 (q0.Kids.length:Int),V6 2,V6 4]) a7T rfl) (I9 F bu.enter0 m.rn (by decide :i7 2) (by decide :i7 4) eq) ?_
    rintro gD gE ⟨et,rfl,bQ⟩
    refine⟨_,rfl,?_⟩
    have eu:=(bu.c0 bQ).t1
    refine lv (n9 rfl ak rfl) (av rfl (i8 ?_))
    cases oi es
    exact qd ⟨et,rfl,eu.s,(bs.le.trans bQ.le)⟩
   refine lu ak (lu ak (lv (L8 rfl ak rfl) (av rfl (i8 ?_))))
   cases oi bv
   exact qd ⟨ep,rfl,bu.s,bs.le⟩
  rintro _ gF ⟨ev,rfl,ew,gG⟩
  refine l5 (j9 (i9 (c9 ?_)))
  cases oi em
  exact ey results168 ⟨ev,rfl,ew⟩
 refine sr (lv (A9 rfl rfl) (av rfl (nq (D5 br rfl (fun ex bz=>?_) (fun ex bz=>?_)))))
 ·refine o4 ?_
  obtain⟨eA,eB,eC⟩:=ob bz
  refine l4 (IV w K [] aN [(2,.bool eA)] []) ?_ ?_
  ·refine j5 (lv (j6 (ds:=[V6 q0.Kind,sv q0.Field,V3 A a b,V6 q0.From,V6 q0.To,V3 B c d]) B1 rfl m0 y rfl rfl) ?_)
   obtain⟨gH,eD,eE⟩:=ob eB
   refine lk b0k (R7 F y.enter0 C k (i.mono ar) l s (m.mono ar) eD) ?_
   rintro gI gJ ⟨bR,rfl,bA⟩
   have bS:=(y.c0 bA).t1
   refine mv rfl (bt eE (fun al bB=>?_) (fun al bB=>?_))
   ·refine lg al (i5 rfl) (lg al (A9 rfl rfl) (lv (n9 rfl al rfl) (av rfl (i8 ?_))))
    cases oi bB
    exact qd ⟨bR,rfl,bS.s,bA.le⟩
   refine lu al (lu al (lv (L8 rfl al rfl) (av rfl (i8 ?_))))
   cases oi bB
   exact qd ⟨bR,rfl,bS.s,bA.le⟩
  rintro _ gK ⟨eF,rfl,eG,gL⟩
  refine l5 (j9 (i9 (c9 ?_)))
  cases oi eC
  exact ey results168 ⟨eF,rfl,eG⟩
 refine sr (lv (A9 rfl rfl) (av rfl (nq (D5 bz rfl (fun eH bC=>?_) (fun eH bC=>?_)))))
 ·refine o4 ?_
  obtain⟨eI,eJ,eK⟩:=ob bC
  refine l4 (IV w K [] aN [(2,.bool eI)] []) ?_ ?_
  ·refine j5 (lv (j6 (ds:=[V6 q0.Kind,sv q0.Field,V3 A a b,V6 q0.From,V6 q0.To,V3 B c d]) B1 rfl m0 y rfl rfl) ?_)
   obtain⟨gM,eL,eM⟩:=ob eJ
   refine lk b0k (R7 F y.enter0 C k (i.mono ar) l s (m.mono ar) eL) ?_
   rintro gN gO ⟨bD,rfl,az⟩
   have am:=(y.c0 az).t1
   refine mv rfl (bt eM (fun an bE=>?_) (fun an bE=>?_))
   ·refine lg an (i5 rfl) (lg an (A9 rfl rfl) (lv (n9 rfl an rfl) (mv rfl (bt bE (fun ad bF=>?_) (fun ad bF=>?_)))))
    ·refine lg ad (c7 a4L rfl) (lg ad (w8 E6 rfl m0 am rfl) (lg ad (A9 rfl rfl) (lv (n9 rfl ad rfl) (mv rfl (bt bF (fun ae bG=>?_) (fun ae bG=>?_))))))
     ·refine lg ae (c7 a1w rfl) (lg ae (w8 E6 rfl m0 am rfl) ?_)
      obtain⟨gP,eN,eO⟩:=ob bG
      refine A3 (wg rfl rfl ae) rfl (A2 (vs:=[V6 q0.From,V6 2,V6 9]) a7T rfl) (I9 F am.enter0 l (by decide :i7 2) (by decide :i7 9) eN) ?_
      rintro gQ gR ⟨eP,rfl,bT⟩
      refine⟨_,rfl,?_⟩
      have eQ:=(am.c0 bT).t1
      refine lv (n9 rfl ae rfl) (av rfl (i8 ?_))
      cases oi eO
      exact qd ⟨eP,rfl,eQ.s,(az.le.trans bT.le)⟩
     refine lu ae (lu ae (lu ae (lv (L8 rfl ae rfl) (av rfl (i8 ?_)))))
     cases oi bG
     exact qd ⟨bD,rfl,am.s,az.le⟩
    refine lu ad (lu ad (lu ad (lv (L8 rfl ad rfl) (mv rfl (lu rfl (lu rfl (lu rfl (lv (L8 rfl rfl rfl) (av rfl ?_)))))))))
    refine i8 ?_
    cases oi bF
    exact qd ⟨bD,rfl,am.s,az.le⟩
   refine lu an (lu an (lv (L8 rfl an rfl) (mv rfl (lu rfl (lu rfl (lu rfl (lv (L8 rfl rfl rfl) (mv rfl (lu rfl ?_)))))))))
   refine lu rfl (lu rfl (lv (L8 rfl rfl rfl) (av rfl (i8 ?_))))
   cases oi bE
   exact qd ⟨bD,rfl,am.s,az.le⟩
  rintro _ gS ⟨eR,rfl,eS,gT⟩
  refine l5 (j9 (i9 (c9 ?_)))
  cases oi eK
  exact ey results168 ⟨eR,rfl,eS⟩
 refine j3 (x8 (qr (lv (O6 rfl) (nq (j9 ?_)))))
 cases oi bC
 exact ey results168 ⟨aN,rfl,y.s⟩

theorem b2E (F:Nat): ∀{w:World} {K:F9} {b:Option Addr} {c d:Nat} {f:Option Addr} {i k:Nat} {q0:q7} {q1:Int} {r:Bool} (hS:SH w K [] w K []) (I:i7 q0.Kind) (J:q0.Field.length≤maxLen) (O:b7 D9 K b c d q0.Words) (R:i7 q0.From) (S:i7 q0.To) (o:b7 F4 K f i k q0.Kids) (ac:i7 q1) (hm:N8 F q0 q1=some r),
  Calls prog 129 #[.agg #[V6 q0.Kind,sv q0.Field,V3 b c d,V6 q0.From,V6 q0.To,V3 f i k],V6 q1] w (R_b w K r):=by
 induction F with
 | zero=>intros;rename_i hm;rw [N8] at hm;cases hm
 | succ F ih=>
  intro w K b c d f i k q0 q1 r hS I J O R S o ac hm
  rw [N8] at hm
  refine ci func129 rfl ntmps129 (sr (bx rfl hS fun m aT ad=>?_))
  have q:SH _ _ _ _ _ [s7 m [V6 q0.Kind,sv q0.Field,V3 b c d,V6 q0.From,V6 q0.To,V3 f i k] 35]:=ad
  refine lv (O6 rfl) (ns (o4 ?_))
  obtain⟨ae,af,ag⟩:=ob hm
  refine l4 (IV w K [] K [(1,V6 q1),(2,pt m),(12,.bool ae)] [s7 m [V6 q0.Kind,sv q0.Field,V3 b c d,V6 q0.From,V6 q0.To,V3 f i k] 35]) ?_ ?_
  ·refine j5 (mv rfl (lv (A9 rfl rfl) (mv rfl (bt af (fun a B=>?_) (fun a B=>?_)))))
   ·refine lu a (lu a (lu a (lv (J6 rfl a rfl) (i8 ?_))))
    cases oi B
    exact qd ⟨K,rfl,q,kr⟩
   refine lg a (j6 (ds:=[V6 q0.Kind,sv q0.Field,V3 b c d,V6 q0.From,V6 q0.To,V3 f i k]) B1 rfl m0 q rfl rfl) ?_
   obtain⟨aU,ah,ai⟩:=ob B
   refine A3 (wg rfl rfl a) rfl (A2 (vs:=[.agg #[V6 q0.Kind,sv q0.Field,V3 b c d,V6 q0.From,V6 q0.To,V3 f i k]]) c54 rfl) (b3P F q.enter0 I J O R S o ah) ?_
   rintro aV aW ⟨aj,rfl,T⟩
   refine⟨_,rfl,?_⟩
   have ak:=(q.c0 T).t1
   refine lg a (A4 rfl) (lv (l9 rfl a rfl) (i8 ?_))
   cases oi ai
   exact qd ⟨aj,rfl,ak,T.le⟩
  rintro _ aX ⟨s,rfl,U,V⟩
  refine l5 (D5 ag rfl (fun al C=>?_) (fun al C=>?_))
  ·refine sr (lv (O6 rfl) (nq (rr ?_)))
   cases oi C
   exact ey results129 ⟨s,rfl,U.s⟩
  refine j3 (qs (sr (lv (N2 rfl) (nq ?_))))
  obtain⟨am,an,x⟩:=ob C
  refine l4 (IE am w K [] s [] []) ?_ ?_
  ·refine j7 ?_
   obtain⟨aY,ao,W⟩:=ob an
   refine qw (fun (D:Int)=>IW w K [] s [(1,V6 q1),(2,pt m),(5,V6 D)] [s7 m [V6 q0.Kind,sv q0.Field,V3 b c d,V6 q0.From,V6 q0.To,V3 f i k] 35] (i7 D)) ao ⟨s,rfl,U,kr,I5⟩ ?_
   rintro D _ aZ ba ap X ⟨aq,rfl,l,y,bb⟩
   refine o4 (sr (mv rfl (fl W9 rfl a5u m0 l rfl (lv (q9 underlying33 rfl (o.mono (V.trans y))) (lv (u7 rfl rfl) (nq (D5 ap rfl (fun ar G=>?_) (fun ar G=>?_))))))))
   ·refine j3 (qs (j7 (sr (fl W9 rfl a5u m0 l rfl (mv rfl ?_)))))
    obtain⟨A,au,aw⟩:=ob G
    refine li underlying33 B1 (o.mono (V.trans y)) au fun ax ay bc az aA=>?_
    obtain⟨aB,aC,aD,aE,aF,aG,rfl,aH,aI,aJ,aK,aL,aM⟩:=S9 az
    have aN:F1 _ ax ay [V6 A.Kind,sv A.Field,V3 aB aC aD,V6 A.From,V6 A.To,V3 aE aF aG]:=aA
    refine lv (F3 B1 rfl l aN rfl) (mv rfl (lv (I6 rfl rfl) ?_))
    obtain⟨bd,aO,aP⟩:=ob aw
    refine lk c3S (ih l.enter0 aH aI aJ aK aL aM (u0 _) aO) ?_
    rintro be bf ⟨Y,rfl,aa⟩
    have ab:=(l.c0 aa).t1
    refine lv (A4 rfl) (nq (D5 aP rfl (fun aQ H=>?_) (fun aQ H=>?_)))
    ·refine sr (lv (O6 rfl) (nq (j9 (i9 (c9 (c9 ?_))))))
     cases oi H
     cases X _ rfl
     refine i9 (c9 ?_)
     cases oi W
     refine c9 ?_
     cases oi x
     exact ey results129 ⟨Y,rfl,ab.s⟩
    refine j3 (x8 (l5 (j5 (mv rfl (lv (y7 rfl rfl) (av rfl (i8 ?_)))))))
    cases oi H
    exact qd ⟨_,rfl,Y,rfl,ab,(y.trans aa.le),(u0 _)⟩
   refine y4 (g8 (g8 ?_))
   cases oi G
   cases X _ rfl
   refine l6 ?_
   cases oi W
   exact L6 ⟨_,aq,rfl,rfl,l.s,y⟩ trivial
  rintro _ bg ⟨bh,aR,rfl,rfl,aS,bi⟩
  have x:=E9 x
  refine qr (lv (r_t rfl) (nq (j9 ?_)))
  cases oi x
  exact ey results129 ⟨aR,rfl,aS⟩

theorem a6E {q0:q7}{r:Bool}(hS:SH w K [] w K [])(i:i7 q0.Kind)(k:q0.Field.length≤maxLen)(l:b7 D9 K A a b q0.Words)(m:i7 q0.From)(o:i7 q0.To)(q:b7 F4 K B c d q0.Kids)(hm:Z1 F q0=some r):
  Calls prog 71 #[.agg #[V6 q0.Kind,sv q0.Field,V3 A a b,V6 q0.From,V6 q0.To,V3 B c d]] w (R_b w K r):=by
 rw [Z1] at hm
 refine ci func71 rfl ntmps71 (sr (bx rfl hS fun s I x=>?_))
 have f:SH _ _ _ _ _ [s7 s [V6 q0.Kind,sv q0.Field,V3 A a b,V6 q0.From,V6 q0.To,V3 B c d] 35]:=x
 refine lv (O6 rfl) (nr (lv (j6 (ds:=[V6 q0.Kind,sv q0.Field,V3 A a b,V6 q0.From,V6 q0.To,V3 B c d]) B1 rfl m0 f rfl rfl) ?_))
 obtain⟨J,y,C⟩:=ob hm
 refine lk c3S (b2E F f.enter0 i k l m o q (by decide :i7 4) y) ?_
 rintro O R ⟨D,rfl,G⟩
 have H:=(f.c0 G).t1
 refine av rfl (nq (j9 ?_))
 cases oi C
 exact ey results71 ⟨D,rfl,H.s⟩

theorem a8y {q0:A5}{q1:Int}{r:A1}(hS:SH w K [] w K [])(I:b7 F6 K A a b q0.Docs)(ba:b7 B8 K B c d q0.Entries)(bb:i7 q1)(hm:a2q F q0 q1=some r):
  Calls prog 72 #[.agg #[V3 A a b,V3 B c d],V6 q1] w fun e w'=>∃a_2 n_3 c_4 a_6 n_7 c_8 K',e= .returned (.agg #[V6 r.Id,V3 a_2 n_3 c_4,V3 a_6 n_7 c_8])∧SH w K [] w' K' []∧i7 r.Id∧b7 K5 K' a_2 n_3 c_4 r.Fields∧b7 N0 K' a_6 n_7 c_8 r.Nums:=by
 rw [a2q] at hm
 refine ci func72 rfl ntmps72 (sr (bx rfl hS fun J bc ao=>?_))
 have ap:SH _ _ _ _ _ [s7 J [V3 A a b,V3 B c d] 30]:=ao
 refine al E8 ap fun o bd aq=>?_
 have ar:SH _ _ _ _ _ [s7 o [V6 0,V3 none 0 0,V3 none 0 0] 44,_]:=aq
 refine O7 (lv (N2 rfl) (nq ?_))
 obtain⟨au,aw,H⟩:=ob hm
 refine l4 (fun E' w'=>∃l O R S T U V m,au= .inl l∧E'=[(4,pt o)]∧SH w K [] w' m [s7 o [V6 l.Id,V3 O R S,V3 T U V] 44]∧M0 K m∧i7 l.Id∧b7 K5 m O R S l.Fields∧b7 N0 m T U V l.Nums) ?_ ?_
 ·refine j7 ?_
  obtain⟨be,ax,af⟩:=ob aw
  refine qw (fun (k:Int×A1) E' w'=>∃q s x y C D f,E'=[(1,V6 q1),(2,pt J),(4,pt o),(5,V6 k.1)]∧SH w K [] w' f [s7 J [V3 A a b,V3 B c d] 30,s7 o [V6 k.2.Id,V3 q s x,V3 y C D] 44]∧M0 K f∧i7 k.1∧i7 k.2.Id∧b7 K5 f q s x k.2.Fields∧b7 N0 f y C D k.2.Nums) ax ⟨none,0,0,none,0,0,K,rfl,ar.f1,kr,I5,I5,(b7.nil _ _),(b7.nil _ _)⟩ ?_
  rintro k _ bf bg ay ag ⟨q,s,x,y,C,D,f,rfl,i,G,bh,ah,ai,aj⟩
  refine o4 (sr (mv rfl (fl L3 rfl a1b m0 i rfl (lv (q9 underlying27 rfl (I.mono G)) (lv (u7 rfl rfl) (nq (D5 ay rfl (fun az W=>?_) (fun az W=>?_))))))))
  ·refine j3 (qs (j7 (sr (fl L3 rfl a1b m0 i rfl (mv rfl ?_)))))
   obtain⟨aA,aB,aC⟩:=ob W
   refine li underlying27 E8 (I.mono G) aB fun aD aE bi aF aG=>?_
   obtain⟨aH,aI,aJ,aK,aL,aM,rfl,bj,bk,bl⟩:=aF
   have aN:F1 _ aD aE [V6 aA.Id,V3 aH aI aJ,V3 aK aL aM]:=aG
   refine fa P6 rfl (lv (y9 E6 rfl i (aN 0 _ rfl)) (mv rfl (lv (A9 rfl rfl) (nq (D5 aC rfl (fun aO X=>?_) (fun aO X=>?_))))))
   ·refine sr (fl L3 rfl a1b m0 i rfl (mv rfl ?_))
    obtain⟨ak,aP,aQ⟩:=ob X
    refine li underlying27 E8 (I.mono G) aP fun aR aS bm aT aU=>?_
    obtain⟨Y,aa,ab,ac,ad,ae,rfl,aV,aW,aX⟩:=aT
    have aY:F1 _ aR aS [V6 ak.Id,V3 Y aa ab,V3 ac ad ae]:=aU
    refine lv (F3 E8 rfl i aY rfl) (lw [V6 ak.Id,V3 Y aa ab,V3 ac ad ae] E8 i.f1 fun bn am=>(nq (j9 (i9 (c9 (c9 ?_))))))
    cases oi aQ
    cases ag _ rfl
    refine i9 (c9 ?_)
    cases oi af
    refine c9 ?_
    cases oi H
    exact ez results72 E8 am m0 ⟨Y,aa,ab,ac,ad,ae,f,rfl,am.s,aV,aW,aX⟩
   refine j3 (x8 (l5 (j5 (mv rfl (lv (y7 rfl rfl) (av rfl (i8 ?_)))))))
   cases oi X
   exact qd ⟨_,rfl,q,s,x,y,C,D,f,rfl,i,G,(u0 _),ah,ai,aj⟩
  refine y4 (g8 (g8 ?_))
  cases oi W
  cases ag _ rfl
  refine l6 ?_
  cases oi af
  exact qd ⟨_,q,s,x,y,C,D,f,rfl,rfl,i.s,G,ah,ai,aj⟩
 rintro _ bo ⟨l,O,R,S,T,U,V,m,rfl,rfl,aZ,bp,bq,br,bs⟩
 have H:=E9 H
 refine qr (lv (C3 (cs:=#[V6 0,V3 none 0 0,V3 none 0 0]) b4M E8 rfl (by kernel_rfl)) (lw [V6 0,V3 none 0 0,V3 none 0 0] E8 aZ fun bu an=>(nq (j9 ?_))))
 cases oi H
 exact ez results72 E8 an m0 ⟨none,0,0,none,0,0,m,rfl,an.s,I5,(b7.nil _ _),(b7.nil _ _)⟩

theorem a7J {q0:List r4}{q1:r4}{r:r4}(hS:SH w K [] w K [])(m:b7 D9 K A a b q0)(ak:q1.length≤maxLen)(hm:a1o F q0 q1=some r):
  Calls prog 176 #[V3 A a b,sv q1] w fun e w'=>∃K',e= .returned (sv r)∧SH w K [] w' K' []∧r.length≤maxLen:=by
 rw [a1o] at hm
 refine ci func176 rfl ntmps176 (sr (lv (r_s rfl) (nr (lv (r_s rfl) (O7 (lv (N2 rfl) (nq ?_)))))))
 obtain⟨o,D,G⟩:=ob hm
 refine l4 (IW w K [] K [(5,sv o)] [] (o.length≤maxLen)) ?_ ?_
 ·refine j7 ?_
  obtain⟨al,H,I⟩:=ob D
  refine qw (fun (c:r4×Int)=>IW w K [] K [(0,V3 A a b),(1,sv q1),(5,sv c.1),(6,V6 c.2)] [] (c.1.length≤maxLen∧i7 c.2)) H ⟨K,rfl,hS,kr,(by decide :([]:r4).length≤maxLen),I5⟩ ?_
  rintro c _ am an J O ⟨d,rfl,i,f,q,ao⟩
  refine o4 (sr (mv rfl (mv rfl (lv (q9 underlying23 rfl (m.mono f)) (lv (u7 rfl rfl) (nq (D5 J rfl (fun R k=>?_) (fun R k=>?_))))))))
  ·refine j3 (qs (j7 (o4 (sr (mv rfl (lv (E7 rfl rfl) (nq ?_)))))))
   obtain⟨s,S,T⟩:=ob k
   refine l4 (IW w K [] d [(0,V3 A a b),(1,sv q1),(5,sv s),(6,V6 c.2)] [] (s.length≤maxLen)) ?_ ?_
   ·refine D5 S rfl (fun U l=>?_) (fun U l=>?_)
    ·refine j5 (mv rfl (mv rfl ?_))
     obtain⟨ap,x,V⟩:=ob l
     refine lv (b3c rfl rfl x) (av rfl (i8 ?_))
     cases oi V
     exact qd ⟨d,rfl,i,kr,(b5P x)⟩
    refine j3 ?_
    cases oi l
    exact qd ⟨d,rfl,i,kr,q⟩
   rintro _ aq ⟨W,rfl,y,B,ar⟩
   refine l5 (j5 (mv rfl (mv rfl (mv rfl ?_))))
   obtain⟨X,Y,aa⟩:=ob T
   refine li underlying23 G7 (m.mono (f.trans B)) Y fun ab ac au ad ae=>?_
   obtain⟨rfl,aw⟩:=ad
   have af:F1 _ ab ac [sv X]:=ae
   refine lv (y9 G7 rfl y (af 0 _ rfl)) ?_
   obtain⟨ax,C,ag⟩:=ob aa
   refine lv (b3c rfl rfl C) (av rfl (nb (l5 (j5 (mv rfl (lv (y7 rfl rfl) (av rfl (i8 ?_))))))))
   cases oi ag
   exact qd ⟨_,rfl,W,rfl,y,(f.trans B),(b5P C),(u0 _)⟩
  refine y4 (g8 (g8 ?_))
  cases oi k
  cases O _ rfl
  refine l6 ?_
  cases oi I
  exact qd ⟨d,rfl,i,f,q⟩
 rintro _ ay ⟨K9,rfl,ai,az,aj⟩
 refine qr (mv rfl (av rfl (nq (j9 ?_))))
 cases oi G
 exact ey results176 ⟨K9,rfl,ai,aj⟩

theorem b1D {q0:u6}{q1:A5}{q2:q7}{q3:Int}{r:(List (List Int))}(hS:SH w K [] w K [])(aS:b7 D9 K A a b q0.Stops)(aT:b7 L0 K B c d q0.Syns)(aU:b7 F6 K C f i q1.Docs)(aV:b7 B8 K D k l q1.Entries)(dg:i7 q2.Kind)(aW:q2.Field.length≤maxLen)(aX:b7 D9 K G m n q2.Words)(dh:i7 q2.From)(di:i7 q2.To)(dj:b7 F4 K H o p q2.Kids)(aY:i7 q3)(hm:a3Y F q0 q1 q2 q3=some r):
  Calls prog 174 #[.agg #[V3 A a b,V3 B c d],.agg #[V3 C f i,V3 D k l],.agg #[V6 q2.Kind,sv q2.Field,V3 G m n,V6 q2.From,V6 q2.To,V3 H o p],V6 q3] w fun e w'=>∃a_1 n_2 c_3 K',e= .returned (V3 a_1 n_2 c_3)∧SH w K [] w' K' [tail (V3 a_1 n_2 c_3) 46 1]∧b7 (X2 D6) K' a_1 n_2 c_3 r:=by
 rw [a3Y] at hm
 refine ci func174 rfl ntmps174 (sr (bx rfl hS fun aK dk aZ=>?_))
 have ba:SH _ _ _ _ _ [s7 aK [V3 A a b,V3 B c d] 26]:=aZ
 refine bx rfl ba fun J dl bb=>?_
 have bc:SH _ _ _ _ _ [s7 J [V3 C f i,V3 D k l] 30,_]:=bb
 refine bx rfl bc fun s dm bd=>?_
 have be:SH _ _ _ _ _ [s7 s [V6 q2.Kind,sv q2.Field,V3 G m n,V6 q2.From,V6 q2.To,V3 H o p] 35,_,_]:=bd
 refine lv (r_n rfl) (nr (a6j (X2 D6) wn rfl underlying195 a1g be fun bf dn bg ad bh bi=>(av rfl (ns ?_))))
 have ae:=bi.drew
 refine wh1 (fun w'=>H0 bg w'∧B0 aK [V3 A a b,V3 B c d] w'∧B0 s [V6 q2.Kind,sv q2.Field,V3 G m n,V6 q2.From,V6 q2.To,V3 H o p] w') (fun w'=>True) 6 [] mixed ⟨ae.hasK kr,ae.hasObj m3,ae.hasObj m1⟩ (fun _=>trivial) (gh (fun _ h=>A0 (ds:=[V3 A a b,V3 B c d]) B9 rfl rfl rfl h.2.1) (gt (c7 a0B rfl) (gh (fun _ h=>B5 W1 rfl rfl h.2.2) (gn ?_))))
 obtain⟨dp,bj,bk⟩:=ob hm
 refine lk c3Y (a7J F ae.enter0 (aX.mono ad) (by decide :([32]:r4).length≤maxLen) bj) ?_
 rintro dq dr ⟨dt,rfl,O,bl⟩
 have af:=(ae.c0 O).t4
 refine i8 (qh ⟨af.hasK O.le,af.hasObj m3,af.hasObj m1⟩ (fun _=>trivial) (gn ?_))
 obtain⟨du,bm,bn⟩:=ob bk
 refine lk b6s (a2j F af.enter0 (aS.mono (ad.trans O.le)) (aT.mono (ad.trans O.le)) bl bm) ?_
 rintro dv dw ⟨aA,aB,aC,aD,rfl,ag,aq⟩
 have ar:=(af.c0 ag).t5
 refine i8 (qh ⟨ar.hasK (O.le.trans ag.le),ar.hasObj m4,ar.hasObj m2⟩ (fun _=>trivial) (gt (u9 rfl) (gd' (qs (sr (lv (N2 rfl) (nq ?_)))))))
 obtain⟨bo,bp,bq⟩:=ob bn
 refine l4 (fun E' w'=>∃ah ai aj ak,E'=[(9,V3 ah ai aj)]∧SH w K [] w' ak [tail (V3 ah ai aj) 46 1]∧M0 aD ak∧b7 (X2 D6) ak ah ai aj bo) ?_ ?_
 ·refine j7 ?_
  obtain⟨dx,br,bs⟩:=ob bp
  have bu:=ar.f1.f2.f3.sb (sk (sk (sk (sd (sd sz)))))
  refine qw (fun (q:(List (List Int))×Int) E' w'=>∃x y I al,E'=[(3,V6 q3),(5,pt J),(6,pt s),(9,V3 x y I),(10,V3 aA aB aC),(11,V6 q.2)]∧SH w K [] w' al [s7 J [V3 C f i,V3 D k l] 30,s7 s [V6 q2.Kind,sv q2.Field,V3 G m n,V6 q2.From,V6 q2.To,V3 H o p] 35,tail (V3 x y I) 46 1]∧M0 aD al∧b7 (X2 D6) al x y I q.1∧i7 q.2) br ⟨bf,0,0,aD,rfl,bu,kr,(bh.mono (O.le.trans ag.le)),I5⟩ ?_
  rintro q _ dy dz bv bz ⟨x,y,I,al,rfl,aL,R,aM,dA⟩
  refine o4 (sr (mv rfl (mv rfl (lv (q9 underlying104 rfl (aq.mono R)) (lv (u7 rfl rfl) (nq (D5 bv rfl (fun bA aE=>?_) (fun bA aE=>?_))))))))
  ·refine j3 (qs (j7 (o4 (D4 mixed (by kernel_rfl) aL (km rfl (km rfl ?_))))))
   obtain⟨S,bB,bC⟩:=ob aE
   refine ki underlying104 M3 (aq.mono R) bB fun bD bE dB bF bG=>?_
   obtain⟨rfl,dC,dD⟩:=bF
   have bH:F1 _ bD bE [sv S.Text,V6 S.At]:=bG
   refine kv (c7 a30 rfl) (kh (C1 E6 rfl (bH 1 _ rfl)) (km rfl ?_))
   obtain⟨T,bI,bJ⟩:=ob bC
   refine ki underlying104 M3 (aq.mono R) bI fun bK bL dE bM bN=>?_
   obtain⟨rfl,dF,dG⟩:=bM
   have bO:F1 _ bK bL [sv T.Text,V6 T.At]:=bN
   refine kv (c7 a30 rfl) (kh (C1 E6 rfl (bO 1 _ rfl)) (kv (I6 rfl rfl) (km rfl (kv (I6 rfl rfl) (kv (u9 rfl) (B4 ?_))))))
   rintro dH ⟨bP,bQ,am⟩
   refine qs ?_
   have an:=bQ.drew
   refine wh1 (fun w'=>H0 bP w'∧B0 J [V3 C f i,V3 D k l] w'∧B0 s [V6 q2.Kind,sv q2.Field,V3 G m n,V6 q2.From,V6 q2.To,V3 H o p] w') (fun w'=>True) 11 [] mixed ⟨an.hasK kr,an.hasObj m0,an.hasObj m1⟩ (fun _=>trivial) (gh (fun _ h=>A0 (ds:=[V3 C f i,V3 D k l]) C4 rfl rfl rfl h.2.1) (gt (c7 Z3 rfl) (gh (fun _ h=>B5 G7 rfl rfl h.2.2) (gt (i5 rfl) (gt (i5 rfl) ?_)))))
   obtain⟨aN,bR,bS⟩:=ob bJ
   refine gi underlying104 M3 (aq.mono (R.trans am)) bR fun bT bU dI bV bW=>?_
   obtain⟨rfl,bX,dJ⟩:=bV
   have bY:F1 _ bT bU [sv aN.Text,V6 aN.At]:=bW
   refine gt (c7 a3Z rfl) (gh (fun _ h=>a0Y G7 rfl (bY 0 _ rfl) h.1) (gt (i5 rfl) (gn ?_)))
   obtain⟨dK,bZ,ca⟩:=ob bS
   refine lk c1C (a6F F an.enter0 (b7.mono ((((ad.trans O.le).trans ag.le).trans R).trans am) aU) (b7.mono ((((ad.trans O.le).trans ag.le).trans R).trans am) aV) aW bX aY bZ) ?_
   rintro dL dM ⟨cb,cc,cd,dN,rfl,au,aF⟩
   have aw:=(an.c0 au).t3
   refine i8 (qh ⟨aw.hasK au.le,aw.hasObj m0,aw.hasObj m1⟩ (fun _=>trivial) (gt (u9 rfl) (gd' (qr (b0 D6 underlying46 E6 aw fun ce dO aG ao cf cg=>(av rfl (O7 (lv (N2 rfl) (nq ?_)))))))))
   obtain⟨aO,ch,cj⟩:=ob ca
   refine l4 (fun E' w'=>∃U V W ax,E'=[(3,V6 q3),(5,pt J),(6,pt s),(9,V3 x y I),(10,V3 aA aB aC),(11,V6 q.2),(14,V3 U V W)]∧SH w K [] w' ax [s7 J [V3 C f i,V3 D k l] 30,s7 s [V6 q2.Kind,sv q2.Field,V3 G m n,V6 q2.From,V6 q2.To,V3 H o p] 35,tail (V3 x y I) 46 1,tail (V3 U V W) 3 1]∧M0 aG ax∧b7 D6 ax U V W aO) ?_ ?_
   ·refine j7 ?_
    obtain⟨dP,ck,cl⟩:=ob ch
    refine qw (fun (ay:(List Int)×Int) E' w'=>∃X Y aa ab,E'=[(3,V6 q3),(5,pt J),(6,pt s),(9,V3 x y I),(10,V3 aA aB aC),(11,V6 q.2),(12,V6 (z8 ((z8 (S.At-T.At))-q.2))),(13,V3 cb cc cd),(14,V3 X Y aa),(15,V6 ay.2)]∧SH w K [] w' ab [s7 J [V3 C f i,V3 D k l] 30,s7 s [V6 q2.Kind,sv q2.Field,V3 G m n,V6 q2.From,V6 q2.To,V3 H o p] 35,tail (V3 x y I) 46 1,tail (V3 X Y aa) 3 1]∧M0 aG ab∧b7 D6 ab X Y aa ay.1∧i7 ay.2) ck ⟨ce,0,0,aG,rfl,cg.f3.f3.f3,kr,cf,I5⟩ ?_
    rintro ay _ dQ dR cm cn ⟨X,Y,aa,ab,rfl,ap,ac,aH,dS⟩
    refine o4 (sr (mv rfl (mv rfl (lv (q9 underlying46 rfl (aF.mono (ao.trans ac))) (lv (u7 rfl rfl) (nq (D5 cm rfl (fun cp aI=>?_) (fun cp aI=>?_))))))))
    ·refine j3 (qs (j7 (sr (mv rfl (mv rfl ?_)))))
     obtain⟨cq,cr,cs⟩:=ob aI
     refine li underlying46 E6 (aF.mono (ao.trans ac)) cr fun ct cu dT cv cw=>?_
     obtain⟨rfl,dU⟩:=cv
     have cx:F1 _ ct cu [V6 cq]:=cw
     refine lv (y9 E6 rfl ap (cx 0 _ rfl)) (mv rfl (lv (a3B rfl rfl) (nq (D5 cs rfl (fun cy aJ=>?_) (fun cy aJ=>?_)))))
     ·refine j5 (mv rfl (mv rfl (mv rfl ?_)))
      obtain⟨az,cz,cA⟩:=ob aJ
      refine li underlying46 E6 (aF.mono (ao.trans ac)) cz fun cB cC dV cD cE=>?_
      obtain⟨rfl,dW⟩:=cD
      have cF:F1 _ cB cC [V6 az]:=cE
      refine lv (y9 E6 rfl ap (cF 0 _ rfl)) (mv rfl (lv (I6 rfl rfl) (lb D6 (V6 (z8 (az-(z8 ((z8 (S.At-T.At))-q.2))))) [V6 (z8 (az-(z8 ((z8 (S.At-T.At))-q.2))))] (z8 (az-(z8 ((z8 (S.At-T.At))-q.2)))) underlying46 E6 ⟨rfl,(u0 _)⟩ ap fun dX dY dZ aP cG cH=>?_)))
      obtain⟨ea,cI,cJ⟩:=ob cA
      refine lp underlying46 E6 (aH.mono aP) cG cI cH.f4 fun cK cL cM eb cN cO cP cQ=>(av rfl (nb (l5 (j5 (mv rfl (lv (y7 rfl rfl) (av rfl (i8 ?_))))))))
      cases oi cJ
      exact qd ⟨_,rfl,cK,cL,cM,cN,rfl,cQ.f4.f4.f4.s,((ac.trans aP).trans cO),cP,(u0 _)⟩
     refine j3 (x8 (l5 (j5 (mv rfl (lv (y7 rfl rfl) (av rfl (i8 ?_)))))))
     cases oi aJ
     exact qd ⟨_,rfl,X,Y,aa,ab,rfl,ap,ac,aH,(u0 _)⟩
    refine y4 (g8 (g8 ?_))
    cases oi aI
    cases cn _ rfl
    refine l6 ?_
    cases oi cl
    exact qd ⟨X,Y,aa,ab,rfl,ap,ac,aH⟩
   rintro _ ec ⟨U,V,W,ax,rfl,cR,aQ,cS⟩
   refine l5 (j5 (mv rfl (mv rfl (lb (X2 D6) (V3 U V W) [V3 U V W] aO underlying195 a1g ⟨_,_,_,rfl,cS⟩ cR fun ed ee ef aR cT cU=>?_))))
   obtain⟨eg,cV,cW⟩:=ob cj
   refine lp underlying195 a1g (b7.mono ((((am.trans au.le).trans ao).trans aQ).trans aR) aM) cT cV cU.f3 fun cX cY cZ eh da db dc dd=>(av rfl (nb (l5 (j5 (mv rfl (lv (y7 rfl rfl) (av rfl (i8 ?_))))))))
   cases oi cW
   exact qd ⟨_,rfl,cX,cY,cZ,da,rfl,dd.f3.f3.s,((((((R.trans am).trans au.le).trans ao).trans aQ).trans aR).trans db),dc,(u0 _)⟩
  refine y4 (g8 (g8 ?_))
  cases oi aE
  cases bz _ rfl
  refine l6 ?_
  cases oi bs
  exact qd ⟨x,y,I,al,rfl,aL.s,R,aM⟩
 rintro _ ei ⟨ah,ai,aj,ak,rfl,de,ej,df⟩
 refine qr (mv rfl (av rfl (nq (j9 ?_))))
 cases oi bq
 exact ey results174 ⟨ah,ai,aj,ak,rfl,de,df⟩

theorem b5Y {q0:List Int}{r:Bool}(hS:SH w K [] w K [])(i:b7 D6 K A a b q0)(hm:a5n F q0=some r):
  Calls prog 210 #[V3 A a b] w (R_b w K r):=by
 rw [a5n] at hm
 refine ci func210 rfl ntmps210 (sr (lv (O6 rfl) (O7 (lv (N2 rfl) (nq ?_)))))
 obtain⟨H,I,k⟩:=ob hm
 refine l4 (IE H w K [] K [(0,V3 A a b)] []) ?_ ?_
 ·refine j7 ?_
  obtain⟨aP,J,x⟩:=ob I
  refine qw (fun (l:Int)=>IW w K [] K [(0,V3 A a b),(3,V6 l)] [] (i7 l)) J ⟨K,rfl,hS,kr,I5⟩ ?_
  rintro l _ aQ aR O y ⟨B,rfl,C,f,aS⟩
  refine o4 (sr (mv rfl (mv rfl (lv (q9 underlying46 rfl (i.mono f)) (lv (u7 rfl rfl) (nq (D5 O rfl (fun R m=>?_) (fun R m=>?_))))))))
  ·refine j3 (qs (j7 (o4 ?_)))
   obtain⟨S,T,U⟩:=ob m
   refine l4 (IV w K [] B [(0,V3 A a b),(3,V6 l),(31,.bool S)] []) ?_ ?_
   ·refine D4 mixed (by kernel_rfl) C (km rfl (km rfl ?_))
    obtain⟨V,W,X⟩:=ob T
    refine ki underlying46 E6 (i.mono f) W fun Y aa aT ab ac=>?_
    obtain⟨rfl,ad⟩:=ab
    have ae:F1 _ Y aa [V6 V]:=ac
    refine kh (C1 E6 rfl (ae 0 _ rfl)) ?_
    obtain⟨aU,af,ag⟩:=ob X
    refine kc a7T (fun _ _ ah aV=>(I9 F) ah.enter0 ad I5 (by decide :i7 999999999) af) (kv (A4 rfl) (km rfl (bt ag (fun d o=>?_) (fun d o=>?_))))
    ·refine kn d (kn d (kn d ?_))
     iterate 10 refine ku ?_
     refine kn d (kv (J6 rfl d rfl) (B4 ?_))
     rintro aW ⟨ai,aj,ak⟩
     cases oi o
     exact qd ⟨ai,rfl,aj,ak⟩
    refine kg d (i5 rfl) (kg d (E7 rfl rfl) (kg d (i5 rfl) (bt o (fun c q=>?_) (fun c q=>?_))))
    ·refine kg c (i5 rfl) (kg c (i5 rfl) ?_)
     obtain⟨al,am,an⟩:=ob q
     refine C7 (t:=D6) (wg rfl rfl c) rfl underlying46 E6 rfl rfl (i.mono f) am fun ao ap aX aq ar=>?_
     obtain⟨rfl,aY⟩:=aq
     have au:F1 _ ao ap [V6 al]:=ar
     refine kgh c (C1 E6 rfl (au 0 _ rfl)) (kg c (i5 rfl) (kg c (i5 rfl) (kg c (I6 rfl rfl) ?_)))
     obtain⟨aw,ax,ay⟩:=ob an
     refine C7 (t:=D6) (wg rfl rfl c) rfl underlying46 E6 rfl rfl (i.mono f) ax fun az aA aZ aB aC=>?_
     obtain⟨rfl,ba⟩:=aB
     have aD:F1 _ az aA [V6 aw]:=aC
     refine kgh c (C1 E6 rfl (aD 0 _ rfl)) (kg c (V2 rfl rfl) (kg d (n9 rfl c rfl) (kv (l9 rfl d rfl) (B4 ?_))))
     rintro bb ⟨aE,aF,aG⟩
     cases oi ay
     exact qd ⟨aE,rfl,aF,aG⟩
    iterate 10 refine kn c ?_
    refine kg d (L8 rfl c rfl) (kv (l9 rfl d rfl) (B4 ?_))
    rintro bc ⟨aH,aI,aJ⟩
    cases oi q
    exact qd ⟨aH,rfl,aI,aJ⟩
   rintro _ bd ⟨D,rfl,G,aK⟩
   refine l5 (D5 U rfl (fun aL s=>?_) (fun aL s=>?_))
   ·refine sr (lv (O6 rfl) (nq (j9 (i9 (c9 (c9 ?_))))))
    cases oi s
    cases y _ rfl
    refine i9 (c9 ?_)
    cases oi x
    refine c9 ?_
    cases oi k
    exact ey results210 ⟨D,rfl,G⟩
   refine j3 (x8 (l5 (j5 (mv rfl (lv (y7 rfl rfl) (av rfl (i8 ?_)))))))
   cases oi s
   exact qd ⟨_,rfl,D,rfl,G,(f.trans aK),(u0 _)⟩
  refine y4 (g8 (g8 ?_))
  cases oi m
  cases y _ rfl
  refine l6 ?_
  cases oi x
  exact qd ⟨_,B,rfl,rfl,C,f⟩
 rintro _ be ⟨s8,K9,rfl,rfl,aN,aO⟩
 have k:=E9 k
 refine qr (mv rfl (lv (q9 underlying46 rfl (i.mono aO)) (lv (V2 rfl rfl) (av rfl (nq (j9 ?_))))))
 cases oi k
 exact ey results210 ⟨K9,rfl,aN⟩

theorem b3Y (F:Nat): ∀{w:World} {K:F9} {d:Option Addr} {f i:Nat} {q0:List (List Int)} {q1:Int} {q2:Int} {q3:Int} {q4:Int} {r:Bool} (hS:SH w K [] w K []) (c:b7 (X2 D6) K d f i q0) (R:i7 q1) (S:i7 q2) (B:i7 q3) (C:i7 q4) (hm:Z9 F q0 q1 q2 q3 q4=some r),
  Calls prog 211 #[V3 d f i,V6 q1,V6 q2,V6 q3,V6 q4] w (R_b w K r):=by
 induction F with
 | zero=>intros;rename_i hm;rw [Z9] at hm;cases hm
 | succ F ih=>
  intro w K d f i q0 q1 q2 q3 q4 r hS c R S B C hm
  rw [Z9] at hm
  refine ci func211 rfl ntmps211 (sr (lv (O6 rfl) (O7 (mv rfl (mv rfl (lv (q9 (t:=(X2 D6)) underlying195 rfl c) (lv (A9 rfl rfl) (nq (R9 rfl (fun o=>?_) (fun o=>?_))))))))))
  ·have q:=a1a o hm
   refine sr (mv rfl (mv rfl (lv (I6 rfl rfl) (mv rfl (lv (q9 (t:=(X2 D6)) underlying195 rfl c) (lv (I6 rfl rfl) (lv (I6 rfl rfl) (mv rfl (lv (V2 rfl rfl) ?_)))))))))
   obtain⟨bn,T,U⟩:=ob q
   have V:=oi T
   refine lv (b9v rfl (congrArg (Value.bool) V)) (nq (rr ?_))
   cases oi U
   exact ey results211 ⟨K,rfl,hS⟩
  have q:=a09 o hm
  refine j3 (qs (sr (lv (N2 rfl) (nq ?_))))
  obtain⟨W,X,l⟩:=ob q
  refine l4 (IE W w K [] K [] []) ?_ ?_
  ·refine j7 ?_
   obtain⟨bo,Y,D⟩:=ob X
   refine qw (fun (m:Int)=>IW w K [] K [(0,V3 d f i),(1,V6 q1),(2,V6 q2),(3,V6 q3),(4,V6 q4),(11,V6 m)] [] (i7 m)) Y ⟨K,rfl,hS,kr,I5⟩ ?_
   rintro m _ bp bq aa G ⟨s,rfl,b,k,br⟩
   refine o4 (sr (mv rfl (mv rfl (mv rfl ?_))))
   obtain⟨bs,ab,ac⟩:=ob aa
   refine li underlying195 a1g (c.mono k) ab fun ad ae bu af ag=>?_
   obtain⟨ah,ai,aj,rfl,ak⟩:=af
   have al:F1 _ ad ae [V3 ah ai aj]:=ag
   refine lv (y9 a1g rfl b (al 0 _ rfl)) (lv (q9 underlying46 rfl ak) (lv (u7 rfl rfl) (nq (D5 ac rfl (fun am x=>?_) (fun am x=>?_)))))
   ·refine j3 (qs (j7 (o4 ?_)))
    obtain⟨an,ao,ap⟩:=ob x
    refine l4 (IV w K [] s [(0,V3 d f i),(1,V6 q1),(2,V6 q2),(3,V6 q3),(4,V6 q4),(11,V6 m),(57,.bool an)] []) ?_ ?_
    ·refine j5 (mv rfl (mv rfl ?_))
     obtain⟨bv,aq,ar⟩:=ob ao
     refine li underlying195 a1g (c.mono k) aq fun au aw bx ax ay=>?_
     obtain⟨az,aA,aB,rfl,aC⟩:=ax
     have aD:F1 _ au aw [V3 az aA aB]:=ay
     refine lv (y9 a1g rfl b (aD 0 _ rfl)) (mv rfl ?_)
     obtain⟨aE,aF,aG⟩:=ob ar
     refine li underlying46 E6 aC aF fun aH aI bz aJ aK=>?_
     obtain⟨rfl,bA⟩:=aJ
     have aL:F1 _ aH aI [V6 aE]:=aK
     refine lv (y9 E6 rfl b (aL 0 _ rfl)) (mv rfl (lv (E7 rfl rfl) (mv rfl (bt aG (fun a y=>?_) (fun a y=>?_)))))
     ·refine lg a (i5 rfl) (lg a (i5 rfl) (lg a (y7 rfl rfl) (lg a (i5 rfl) (lg a (i5 rfl) ?_))))
      obtain⟨bB,aM,aN⟩:=ob y
      refine N1 (t:=(X2 D6)) (wg rfl rfl a) rfl underlying195 a1g rfl rfl (c.mono k) aM fun aO aP bC aQ aR=>?_
      obtain⟨aS,aT,aU,rfl,aV⟩:=aQ
      have aW:F1 _ aO aP [V3 aS aT aU]:=aR
      refine lg a (y9 a1g rfl b (aW 0 _ rfl)) (lg a (i5 rfl) ?_)
      obtain⟨H,aX,aY⟩:=ob aN
      refine N1 (t:=D6) (wg rfl rfl a) rfl underlying46 E6 rfl rfl aV aX fun aZ ba bD bb bc=>?_
      obtain⟨rfl,bd⟩:=bb
      have be:F1 _ aZ ba [V6 H]:=bc
      refine lg a (y9 E6 rfl b (be 0 _ rfl)) (lg a (i5 rfl) (lg a (i5 rfl) ?_))
      obtain⟨bE,bf,bg⟩:=ob aY
      refine A3 (wg rfl rfl a) rfl (A2 (vs:=[V3 d f i,V6 (z8 (q1+(1:Int))),V6 H,V6 q3,V6 q4]) c32 rfl) (ih b.enter0 (c.mono k) (u0 _) bd B C bf) ?_
      rintro bF bG ⟨bh,rfl,I⟩
      refine⟨_,rfl,?_⟩
      have bi:=(b.c0 I).t0
      refine lv (n9 rfl a rfl) (i8 ?_)
      cases oi bg
      exact qd ⟨bh,rfl,bi,I.le⟩
     iterate 13 refine lu a ?_
     refine lv (L8 rfl a rfl) (i8 ?_)
     cases oi y
     exact qd ⟨s,rfl,b,kr⟩
    rintro _ bH ⟨J,rfl,O,bj⟩
    refine l5 (D5 ap rfl (fun bk A=>?_) (fun bk A=>?_))
    ·refine sr (lv (r_t rfl) (nq (j9 (i9 (c9 (c9 ?_))))))
     cases oi A
     cases G _ rfl
     refine i9 (c9 ?_)
     cases oi D
     refine c9 ?_
     cases oi l
     exact ey results211 ⟨J,rfl,O⟩
    refine j3 (x8 (l5 (j5 (mv rfl (lv (y7 rfl rfl) (av rfl (i8 ?_)))))))
    cases oi A
    exact qd ⟨_,rfl,J,rfl,O,(k.trans bj),(u0 _)⟩
   refine y4 (g8 (g8 ?_))
   cases oi x
   cases G _ rfl
   refine l6 ?_
   cases oi D
   exact L6 ⟨_,s,rfl,rfl,b,k⟩ trivial
  rintro _ bI ⟨bJ,bl,rfl,rfl,bm,bK⟩
  have l:=E9 l
  refine qr (lv (O6 rfl) (nq (j9 ?_)))
  cases oi l
  exact ey results211 ⟨bl,rfl,bm⟩

theorem b1C {q0:List (List Int)}{q1:Int}{r:(List Int)}(hS:SH w K [] w K [])(c:b7 (X2 D6) K A a b q0)(ah:i7 q1)(hm:a18 F q0 q1=some r):
  Calls prog 175 #[V3 A a b,V6 q1] w fun e w'=>∃a_1 n_2 c_3 K',e= .returned (V3 a_1 n_2 c_3)∧SH w K [] w' K' [tail (V3 a_1 n_2 c_3) 3 1]∧b7 D6 K' a_1 n_2 c_3 r:=by
 rw [a18] at hm
 refine ci func175 rfl ntmps175 (sr (lv (r_n rfl) (nr (b0 D6 underlying46 E6 hS fun l w7 U d ar au=>(av rfl (O7 (lv (N2 rfl) (nq ?_))))))))
 obtain⟨aw,ax,H⟩:=ob hm
 refine l4 (IE aw w K [] U [(0,V3 A a b),(1,V6 q1),(5,V3 l 0 0)] [tail (V3 l 0 0) 3 1]) ?_ ?_
 ·refine j7 ?_
  obtain⟨dd,ay,ai⟩:=ob ax
  refine qw (fun (V:Int)=>IW w K [] U [(0,V3 A a b),(1,V6 q1),(5,V3 l 0 0),(6,V6 V)] [tail (V3 l 0 0) 3 1] (i7 V)) ay ⟨U,rfl,au,kr,I5⟩ ?_
  rintro V _ de df az aj ⟨aA,rfl,I,J,dg⟩
  refine o4 (sr (mv rfl (mv rfl (lv (q9 (t:=(X2 D6)) underlying195 rfl (c.mono (d.trans J))) (lv (u7 rfl rfl) (nq (D5 az rfl (fun aB W=>?_) (fun aB W=>?_))))))))
  ·refine j3 (qs (j7 (sr (mv rfl (mv rfl ?_)))))
   obtain⟨dh,aC,aD⟩:=ob W
   refine li underlying195 a1g (c.mono (d.trans J)) aC fun aE aF di aG aH=>?_
   obtain⟨aI,aJ,aK,rfl,aL⟩:=aG
   have aM:F1 _ aE aF [V3 aI aJ aK]:=aH
   refine lv (y9 a1g rfl I (aM 0 _ rfl)) ?_
   obtain⟨dj,aN,aO⟩:=ob aD
   refine lk c6n (b5Y F I.enter0 aL aN) ?_
   rintro dk dl ⟨ak,rfl,al⟩
   have am:=(I.c0 al).t1
   refine lv (A4 rfl) (nq (D5 aO rfl (fun aP X=>?_) (fun aP X=>?_)))
   ·refine sr (lv (r_n rfl) (nq (j9 (i9 (c9 (c9 ?_))))))
    cases oi X
    cases aj _ rfl
    refine i9 (c9 ?_)
    cases oi ai
    refine c9 ?_
    cases oi H
    have aQ:=am.nil 3 1
    exact ey results175 ⟨none,0,0,ak,rfl,aQ.s,(b7.nil _ _)⟩
   refine j3 (x8 (l5 (j5 (mv rfl (lv (y7 rfl rfl) (av rfl (i8 ?_)))))))
   cases oi X
   exact qd ⟨_,rfl,ak,rfl,am,(J.trans al.le),(u0 _)⟩
  refine y4 (g8 (g8 ?_))
  cases oi W
  cases aj _ rfl
  refine l6 ?_
  cases oi ai
  exact qd ⟨_,aA,rfl,rfl,I,J⟩
 rintro _ dm ⟨dn,aR,rfl,rfl,an,i⟩
 have H:=E9 H
 refine qs (o4 ?_)
 obtain⟨aS,aT,aU⟩:=ob H
 refine l4 (IV w K [] aR [(0,V3 A a b),(1,V6 q1),(5,V3 l 0 0),(29,.bool aS)] [tail (V3 l 0 0) 3 1]) ?_ ?_
 ·refine j5 (mv rfl (lv (q9 (t:=(X2 D6)) underlying195 rfl (c.mono (d.trans i))) ?_))
  obtain⟨dp,aV,aW⟩:=ob aT
  refine lk a7T (I9 F an.enter0 (c.mono (d.trans i)).rn (by decide :i7 1) (by decide :i7 6) aV) ?_
  rintro dq dr ⟨aX,rfl,Y⟩
  have aa:=(an.c0 Y).t1
  refine lv (A4 rfl) (mv rfl (bt aW (fun f ab=>?_) (fun f ab=>?_)))
  ·refine lu f (lu f (lu f (lv (J6 rfl f rfl) (i8 ?_))))
   cases oi ab
   exact qd ⟨aX,rfl,aa,Y.le⟩
  refine lg f (i5 rfl) ?_
  obtain⟨ds,aY,aZ⟩:=ob ab
  refine A3 (wg rfl rfl f) rfl (A2 (vs:=[V6 q1,V6 0,V6 5]) a7T rfl) (I9 F aa.enter0 ah I5 (by decide :i7 5) aY) ?_
  rintro dt du ⟨ba,rfl,ao⟩
  refine⟨_,rfl,?_⟩
  have bb:=(aa.c0 ao).t1
  refine lg f (A4 rfl) (lv (l9 rfl f rfl) (i8 ?_))
  cases oi aZ
  exact qd ⟨ba,rfl,bb,(Y.le.trans ao.le)⟩
 rintro _ dv ⟨O,rfl,ap,m⟩
 refine l5 (D5 aU rfl (fun bc ac=>?_) (fun bc ac=>?_))
 ·refine sr (lv (r_n rfl) (nq (rr ?_)))
  cases oi ac
  have bd:=ap.nil 3 1
  exact ey results175 ⟨none,0,0,O,rfl,bd.s,(b7.nil _ _)⟩
 refine j3 (qs (sr (lv (N2 rfl) (nq ?_))))
 obtain⟨be,bf,bg⟩:=ob ac
 refine l4 (fun E' w'=>∃x y B C,E'=[(5,V3 x y B)]∧SH w K [] w' C [tail (V3 x y B) 3 1]∧M0 O C∧b7 D6 C x y B be) ?_ ?_
 ·refine j7 ?_
  obtain⟨dw,bh,bi⟩:=ob bf
  refine qw (fun (R:(List Int)×Int) E' w'=>∃o q s D,E'=[(0,V3 A a b),(1,V6 q1),(5,V3 o q s),(7,V6 R.2)]∧SH w K [] w' D [tail (V3 o q s) 3 1]∧M0 O D∧b7 D6 D o q s R.1∧i7 R.2) bh ⟨l,0,0,O,rfl,ap,kr,(ar.mono (i.trans m)),I5⟩ ?_
  rintro R _ dx dy bj bk ⟨o,q,s,D,rfl,ad,k,ae,dz⟩
  refine o4 (sr (mv rfl (mv rfl ?_)))
  obtain⟨dA,bl,bm⟩:=ob bj
  refine li underlying195 a1g (b7.mono (((d.trans i).trans m).trans k) c) bl fun bn bo dB bp bq=>?_
  obtain⟨br,bs,bu,rfl,bv⟩:=bp
  have bx:F1 _ bn bo [V3 br bs bu]:=bq
  refine lv (y9 a1g rfl ad (bx 0 _ rfl)) (lv (q9 underlying46 rfl bv) (lv (u7 rfl rfl) (nq (D5 bm rfl (fun bz af=>?_) (fun bz af=>?_)))))
  ·refine j3 (qs (j7 (o4 (D4 mixed (by kernel_rfl) ad (km rfl (km rfl ?_))))))
   obtain⟨dC,bA,bB⟩:=ob af
   refine ki underlying195 a1g (b7.mono (((d.trans i).trans m).trans k) c) bA fun bC bD dD bE bF=>?_
   obtain⟨bG,bH,bI,rfl,bJ⟩:=bE
   have bK:F1 _ bC bD [V3 bG bH bI]:=bF
   refine kh (C1 a1g rfl (bK 0 _ rfl)) (km rfl ?_)
   obtain⟨bL,bM,bN⟩:=ob bB
   refine ki underlying46 E6 bJ bM fun bO bP dE bQ bR=>?_
   obtain⟨rfl,bS⟩:=bQ
   have bT:F1 _ bO bP [V6 bL]:=bR
   refine kh (C1 E6 rfl (bT 0 _ rfl)) (km rfl ?_)
   obtain⟨dF,bU,bV⟩:=ob bN
   refine ki underlying195 a1g (b7.mono (((d.trans i).trans m).trans k) c) bU fun bW bX dG bY bZ=>?_
   obtain⟨ca,cb,cc,rfl,cd⟩:=bY
   have ce:F1 _ bW bX [V3 ca cb cc]:=bZ
   refine kh (C1 a1g rfl (ce 0 _ rfl)) (km rfl ?_)
   obtain⟨cf,cg,ch⟩:=ob bV
   refine ki underlying46 E6 cd cg fun cj ck dH cl cm=>?_
   obtain⟨rfl,cn⟩:=cl
   have cp:F1 _ cj ck [V6 cf]:=cm
   refine kh (C1 E6 rfl (cp 0 _ rfl)) (km rfl ?_)
   obtain⟨dI,cq,cr⟩:=ob ch
   refine kc c32 (fun _ _ cs ct=>(b3Y F) cs.enter0 (b7.mono ((((d.trans i).trans m).trans k).trans ct) c) (by decide :i7 1) bS cn ah cq) (B4 ?_)
   rintro dJ ⟨cu,S,G⟩
   refine l5 (D5 cr rfl (fun cv ag=>?_) (fun cv ag=>?_))
   ·refine j5 (mv rfl (mv rfl ?_))
    obtain⟨dK,cw,cx⟩:=ob ag
    refine li underlying195 a1g (b7.mono ((((d.trans i).trans m).trans k).trans G) c) cw fun cy cz dL cA cB=>?_
    obtain⟨cC,cD,cE,rfl,cF⟩:=cA
    have cG:F1 _ cy cz [V3 cC cD cE]:=cB
    refine lv (y9 a1g rfl S (cG 0 _ rfl)) (mv rfl ?_)
    obtain⟨T,cH,cI⟩:=ob cx
    refine li underlying46 E6 cF cH fun cJ cK dM cL cM=>?_
    obtain⟨rfl,cN⟩:=cL
    have cO:F1 _ cJ cK [V6 T]:=cM
    refine lv (y9 E6 rfl S (cO 0 _ rfl)) (lb D6 (V6 T) [V6 T] T underlying46 E6 ⟨rfl,cN⟩ S fun dN dO dP aq cP cQ=>?_)
    obtain⟨dQ,cR,cS⟩:=ob cI
    refine lp underlying46 E6 (ae.mono (G.trans aq)) cP cR cQ.f1 fun cT cU cV dR cW cX cY cZ=>(av rfl (nb (l5 (j5 (mv rfl (lv (y7 rfl rfl) (av rfl (i8 ?_))))))))
    cases oi cS
    exact qd ⟨_,rfl,cT,cU,cV,cW,rfl,cZ.s,(((k.trans G).trans aq).trans cX),cY,(u0 _)⟩
   refine j3 (x8 (l5 (j5 (mv rfl (lv (y7 rfl rfl) (av rfl (i8 ?_)))))))
   cases oi ag
   exact qd ⟨_,rfl,o,q,s,cu,rfl,S,(k.trans G),(ae.mono G),(u0 _)⟩
  refine y4 (g8 (g8 ?_))
  cases oi af
  cases bk _ rfl
  refine l6 ?_
  cases oi bi
  exact qd ⟨o,q,s,D,rfl,ad,k,ae⟩
 rintro _ dS ⟨x,y,B,C,rfl,da,dT,db⟩
 refine qr (mv rfl (av rfl (nq (j9 ?_))))
 cases oi bg
 exact ey results175 ⟨x,y,B,C,rfl,da,db⟩

theorem b0M {q0:u6}{q1:A5}{q2:q7}{q3:Int}{r:Int}(hS:SH w K [] w K [])(al:b7 D9 K A a b q0.Stops)(am:b7 L0 K B c d q0.Syns)(ab:b7 F6 K C f i q1.Docs)(ac:b7 B8 K D k l q1.Entries)(aB:i7 q2.Kind)(ad:q2.Field.length≤maxLen)(an:b7 D9 K G m n q2.Words)(ao:i7 q2.From)(aC:i7 q2.To)(aD:b7 F4 K H o p q2.Kids)(ae:i7 q3)(hm:a1q F q0 q1 q2 q3=some r):
  Calls prog 131 #[.agg #[V3 A a b,V3 B c d],.agg #[V3 C f i,V3 D k l],.agg #[V6 q2.Kind,sv q2.Field,V3 G m n,V6 q2.From,V6 q2.To,V3 H o p],V6 q3] w (R_i w K r):=by
 rw [a1q] at hm
 refine ci func131 rfl ntmps131 (sr (bx rfl hS fun W bE aE=>?_))
 have aF:SH _ _ _ _ _ [s7 W [V3 A a b,V3 B c d] 26]:=aE
 refine bx rfl aF fun R bF aG=>?_
 have aH:SH _ _ _ _ _ [s7 R [V3 C f i,V3 D k l] 30,_]:=aG
 refine bx rfl aH fun J bG aI=>?_
 have S:SH _ _ _ _ _ [s7 J [V6 q2.Kind,sv q2.Field,V3 G m n,V6 q2.From,V6 q2.To,V3 H o p] 35,_,_]:=aI
 refine lv (N2 rfl) (nr (lv (j6 (ds:=[V3 A a b,V3 B c d]) B9 rfl m2 S rfl rfl) (lv (j6 (ds:=[V3 C f i,V3 D k l]) C4 rfl m1 S rfl rfl) (lv (j6 (ds:=[V6 q2.Kind,sv q2.Field,V3 G m n,V6 q2.From,V6 q2.To,V3 H o p]) B1 rfl m0 S rfl rfl) (mv rfl ?_)))))
 obtain⟨bH,aJ,aK⟩:=ob hm
 refine lk c55 (b1D F S.enter0 al am ab ac aB ad an ao aC aD ae aJ) ?_
 rintro bI bJ ⟨bK,bL,bM,aL,rfl,s,ap⟩
 have X:=(S.c0 s).t4
 refine av rfl (O7 (mv rfl (lv (q9 (t:=(X2 D6)) underlying195 rfl ap) (lv (A9 rfl rfl) (nq (D5 aK rfl (fun aM af=>?_) (fun aM af=>?_)))))))
 ·refine sr (lv (N2 rfl) (nq (rr ?_)))
  cases oi af
  exact ey results131 ⟨aL,rfl,X.s,I5⟩
 refine j3 (qr (mv rfl (fl a1w rfl E6 m1 X rfl ?_)))
 obtain⟨bN,aN,aO⟩:=ob af
 refine lk c56 (b1C F X.enter0 ap ao aN) ?_
 rintro bO bP ⟨bQ,bR,bS,ag,rfl,x,aq⟩
 have ar:=(X.c0 x).t5
 refine lv (q9 underlying46 rfl aq) (av rfl (O7 (mv rfl (lv (E7 rfl rfl) (nq ?_)))))
 obtain⟨Y,aP,aQ⟩:=ob aO
 refine l4 (IW w K [] ag [(3,V6 q3),(4,pt W),(5,pt R),(6,pt J),(10,V6 Y)] [s7 W [V3 A a b,V3 B c d] 26,s7 R [V3 C f i,V3 D k l] 30,s7 J [V6 q2.Kind,sv q2.Field,V3 G m n,V6 q2.From,V6 q2.To,V3 H o p] 35] (i7 Y)) ?_ ?_
 ·refine D5 aP rfl (fun aR ah=>?_) (fun aR ah=>?_)
  ·refine j5 (lv (u9 (v:=V6 3) rfl) (i8 ?_))
   cases oi ah
   exact qd ⟨ag,rfl,ar.f2.f3.f4.s,kr,(by decide :i7 3)⟩
  refine j3 ?_
  cases oi ah
  exact qd ⟨ag,rfl,ar.f2.f3.f4.s,kr,aq.rn⟩
 rintro _ bT ⟨aS,rfl,aT,I,bU⟩
 refine qr (lv (N2 rfl) (ns ?_))
 have T:=aT.drew
 refine wh1 (fun w'=>H0 aS w'∧B0 W [V3 A a b,V3 B c d] w'∧B0 J [V6 q2.Kind,sv q2.Field,V3 G m n,V6 q2.From,V6 q2.To,V3 H o p] w') (fun w'=>True) 6 [] mixed ⟨T.hasK kr,T.hasObj m0,T.hasObj m2⟩ (fun _=>trivial) (gh (fun _ h=>A0 (ds:=[V3 A a b,V3 B c d]) B9 rfl rfl rfl h.2.1) (gt (c7 a0B rfl) (gh (fun _ h=>B5 W1 rfl rfl h.2.2) (gn ?_))))
 obtain⟨bV,aU,aV⟩:=ob aQ
 refine lk c3Y (a7J F T.enter0 (an.mono ((s.le.trans x.le).trans I)) (by decide :([32]:r4).length≤maxLen) aU) ?_
 rintro bW bX ⟨bY,rfl,q,aW⟩
 have U:=(T.c0 q).t3
 refine i8 (qh ⟨U.hasK q.le,U.hasObj m0,U.hasObj m2⟩ (fun _=>trivial) (gn ?_))
 obtain⟨bZ,aX,aY⟩:=ob aV
 refine lk b6s (a2j F U.enter0 (b7.mono (((s.le.trans x.le).trans I).trans q.le) al) (b7.mono (((s.le.trans x.le).trans I).trans q.le) am) aW aX) ?_
 rintro ca cb ⟨aZ,ba,bb,ai,rfl,O,au⟩
 have aa:=(U.c0 O).t4
 refine i8 (qh ⟨aa.hasK (q.le.trans O.le),aa.hasObj m1,aa.hasObj m3⟩ (fun _=>trivial) (gt (u9 rfl) (gd' (qs (sr (lv (N2 rfl) (nq ?_)))))))
 obtain⟨aw,bc,bd⟩:=ob aY
 refine l4 (IW w K [] ai [(10,V6 Y),(11,V6 aw)] [] (i7 aw)) ?_ ?_
 ·refine j7 ?_
  obtain⟨cc,be,bf⟩:=ob bc
  have bg:=aa.sb (sd (sd (sk (sk sz))))
  refine qw (fun (V:Int×Int)=>IW w K [] ai [(3,V6 q3),(5,pt R),(6,pt J),(10,V6 Y),(11,V6 V.1),(12,V3 aZ ba bb),(13,V6 V.2)] [s7 R [V3 C f i,V3 D k l] 30,s7 J [V6 q2.Kind,sv q2.Field,V3 G m n,V6 q2.From,V6 q2.To,V3 H o p] 35] (i7 V.1∧i7 V.2)) be ⟨ai,rfl,bg,kr,I5,I5⟩ ?_
  rintro V _ cd ce bh bi ⟨bj,rfl,aj,y,bk,cf⟩
  refine o4 (sr (mv rfl (mv rfl (lv (q9 underlying104 rfl (au.mono y)) (lv (u7 rfl rfl) (nq (D5 bh rfl (fun bl ak=>?_) (fun bl ak=>?_))))))))
  ·refine j3 (qs (j7 (D4 mixed (by kernel_rfl) aj (km rfl (kh (D8 (ds:=[V3 C f i,V3 D k l]) C4 rfl m0 rfl rfl) (kv (c7 Z3 rfl) (kh (z6 G7 rfl m1 rfl) (km rfl (km rfl ?_)))))))))
   obtain⟨ax,bm,bn⟩:=ob ak
   refine ki underlying104 M3 (au.mono y) bm fun bo bp cg bq br=>?_
   obtain⟨rfl,ay,ch⟩:=bq
   have bs:F1 _ bo bp [sv ax.Text,V6 ax.At]:=br
   refine kv (c7 a3Z rfl) (kh (C1 G7 rfl (bs 0 _ rfl)) (km rfl ?_))
   obtain⟨cj,az,bu⟩:=ob bn
   refine kd c1y (fun _ _ bv aA=>(a0W F) bv.enter0 (b7.mono ((((((s.le.trans x.le).trans I).trans q.le).trans O.le).trans y).trans aA) ab) (b7.mono ((((((s.le.trans x.le).trans I).trans q.le).trans O.le).trans y).trans aA) ac) ad ay ae az) ?_
   obtain⟨_,_,_,⟨_,_,_,ck⟩,_⟩:=(a0W F) aj.enter0 (b7.mono (((((s.le.trans x.le).trans I).trans q.le).trans O.le).trans y) ab) (b7.mono (((((s.le.trans x.le).trans I).trans q.le).trans O.le).trans y) ac) ad ay ae az []
   refine kv (y7 rfl rfl) (kv (u9 rfl) (B4 ?_))
   rintro cl ⟨bz,bA,bB⟩
   refine x8 (l5 (j5 (mv rfl (lv (y7 rfl rfl) (av rfl (i8 ?_))))))
   cases oi bu
   exact qd ⟨_,rfl,bz,rfl,bA,(y.trans bB),(u0 _),(u0 _)⟩
  refine y4 (g8 (g8 ?_))
  cases oi ak
  cases bi _ rfl
  refine l6 ?_
  cases oi bf
  exact qd ⟨bj,rfl,aj.s,y,bk⟩
 rintro _ cm ⟨bC,rfl,bD,cn,cp⟩
 refine qr (mv rfl (mv rfl (lv (U4 rfl rfl) (av rfl (nq (j9 ?_))))))
 cases oi bd
 exact ey results131 ⟨bC,rfl,bD,(u0 _)⟩

theorem a9E {q0:Int}{q1:Int}{r:Int}(hS:SH w K [] w K [])(c:i7 q0)(d:i7 q1)(hm:a3k F q0 q1=some r):
  Calls prog 212 #[V6 q0,V6 q1] w (R_i w K r):=by
 rw [a3k] at hm
 refine ci func212 rfl ntmps212 (sr (lv (N2 rfl) (O7 (mv rfl (mv rfl (lv (u7 rfl rfl) (nq (R9 rfl (fun a=>?_) (fun a=>?_)))))))))
 ·have b:=a1a a hm
  refine sr (mv rfl (av rfl (nq (rr ?_))))
  cases oi b
  exact ey results212 ⟨K,rfl,hS,c⟩
 have b:=a09 a hm
 refine j3 (qr (mv rfl (av rfl (nq (j9 ?_)))))
 cases oi b
 exact ey results212 ⟨K,rfl,hS,d⟩

theorem a9D {q0:r4}{q1:r4}{r:Int}(hS:SH w K [] w K [])(ck:q0.length≤maxLen)(cl:q1.length≤maxLen)(hm:a4o F q0 q1=some r):
  Calls prog 177 #[sv q0,sv q1] w (R_i w K r):=by
 rw [a4o] at hm
 refine ci func177 rfl ntmps177 (sr (lv (N2 rfl) (nr (mv rfl (lv (J9 underlying9 rfl) (lv (y7 rfl rfl) ?_))))))
 obtain⟨x3,aw,h5⟩:=ob hm
 refine b6h (t:=D6) wn rfl underlying46 E6 rfl rfl rfl aw ⟨rfl,I5⟩ hS fun b cs7 w9 hmx12 hrow10 ay=>?_
 obtain⟨m13,hm14⟩: ∃m,m=x3.length:=⟨_,rfl⟩
 rw [←hm14] at hmx12
 rw [←hm14]
 refine av rfl (O7 (lv (N2 rfl) (nq ?_)))
 obtain⟨aa,az,aA⟩:=ob h5
 refine l4 (fun E' w'=>∃cs22 o,E'=[(0,sv q0),(1,sv q1),(5,V3 (some ⟨b,0,none⟩) m13 m13)]∧SH w K [] w' o [s7 b cs22 3]∧M0 K o∧E1 true D6 o cs22 aa∧m13=aa.length) ?_ ?_
 ·refine j7 ?_
  obtain⟨cn,aB,aC⟩:=ob az
  refine qw (fun (k:Int×(List Int)) E' w'=>∃cs34 s,E'=[(0,sv q0),(1,sv q1),(5,V3 (some ⟨b,0,none⟩) m13 m13),(6,V6 k.1)]∧SH w K [] w' s [s7 b cs34 3]∧M0 K s∧i7 k.1∧E1 true D6 s cs34 k.2∧m13=k.2.length) aB ⟨cs7,K,rfl,ay,kr,I5,hrow10,hm14⟩ ?_
  rintro k _ cp cq aD aE ⟨cs34,s,rfl,ab,ac,aF,hrow35,hm36⟩
  refine o4 (sr (mv rfl (mv rfl (lv (J9 underlying9 rfl) (lv (V2 rfl rfl) (nq (D5 aD rfl (fun aG I=>?_) (fun aG I=>?_))))))))
  ·refine j3 (qs (j7 (j5 (mv rfl (mv rfl (mv rfl ?_))))))
   obtain⟨aH,J,aI⟩:=ob I
   obtain⟨cr,aJ,aK⟩:=E1.at hrow35 J
   obtain⟨rfl,cs⟩:=aJ
   have ct: ∀(j:Nat) (d:Value),[V6 aH][j]? =some d→cs34[k.1.toNat*D6.size+j]? =some d:=aK
   refine lv (J7 (t:=D6) underlying46 E6 rfl rfl hm36 J) (a3b (t:=D6) (v:=V6 k.1) (e:=k.1) wn E6 rfl rfl ⟨rfl,aF⟩ ab hrow35 J fun cs50 cu hrow52 aL=>?_)
   have hm54:=hm36.trans (List.length_set (i:=k.1.toNat) (a:=k.1)).symm
   refine nb (l5 (j5 (mv rfl (lv (y7 rfl rfl) (av rfl (i8 ?_))))))
   cases oi aI
   exact qd ⟨_,rfl,cs50,s,rfl,aL,ac,(u0 _),hrow52,hm54⟩
  refine y4 (g8 (g8 ?_))
  cases oi I
  cases aE _ rfl
  refine l6 ?_
  cases oi aC
  exact qd ⟨cs34,s,rfl,ab,ac,hrow35,hm36⟩
 rintro _ cv ⟨cs22,o,rfl,aM,cw,hrow23,hm24⟩
 refine qs (sr (lv (N2 rfl) (nq ?_)))
 obtain⟨ad,aN,aO⟩:=ob aA
 refine l4 (fun E' w'=>∃cs63 B,E'=[(1,sv q1),(5,V3 (some ⟨b,0,none⟩) m13 m13)]∧SH w K [] w' B [s7 b cs63 3]∧M0 o B∧E1 true D6 B cs63 ad∧m13=ad.length) ?_ ?_
 ·refine j7 ?_
  obtain⟨cx,aP,aQ⟩:=ob aN
  refine qw (fun (f:Int×(List Int)) E' w'=>∃cs75 l,E'=[(0,sv q0),(1,sv q1),(5,V3 (some ⟨b,0,none⟩) m13 m13),(7,V6 f.1)]∧SH w K [] w' l [s7 b cs75 3]∧M0 o l∧i7 f.1∧E1 true D6 l cs75 f.2∧m13=f.2.length) aP ⟨cs22,o,rfl,aM,kr,I5,hrow23,hm24⟩ ?_
  rintro f _ cy cz aR aS ⟨cs75,l,rfl,O,ae,cA,hrow76,hm77⟩
  refine o4 (sr (mv rfl (mv rfl (lv (J9 underlying9 rfl) (lv (u7 rfl rfl) (nq (D5 aR rfl (fun aT R=>?_) (fun aT R=>?_))))))))
  ·refine j3 (qs (j7 (sr (mv rfl ?_))))
   obtain⟨aU,af,aV⟩:=ob R
   obtain⟨cB,aW,aX⟩:=E1.at hrow76 af
   obtain⟨rfl,aY⟩:=aW
   have aZ: ∀(j:Nat) (d:Value),[V6 aU][j]? =some d→cs75[(0:Int).toNat*D6.size+j]? =some d:=aX
   refine lv (J7 (t:=D6) underlying46 E6 rfl rfl hm77 af) (lv (a1B E6 rfl rfl (aZ 0 _ rfl) (O.hasObj (.head _))) (av rfl (nr (mv rfl (mv rfl (lv (y7 rfl rfl) ?_))))))
   obtain⟨ba,S,bb⟩:=ob aV
   obtain⟨cC,bc,bd⟩:=E1.at hrow76 S
   obtain⟨rfl,cD⟩:=bc
   have cE: ∀(j:Nat) (d:Value),[V6 ba][j]? =some d→cs75[(0:Int).toNat*D6.size+j]? =some d:=bd
   refine lv (J7 (t:=D6) underlying46 E6 rfl rfl hm77 S) (a3b (t:=D6) (v:=V6 (z8 (f.1+(1:Int)))) (e:=(z8 (f.1+(1:Int)))) wn E6 rfl rfl ⟨rfl,(u0 _)⟩ O hrow76 S fun cs99 cF hrow101 be=>?_)
   have hm103:=hm77.trans (List.length_set (i:=(0:Int).toNat) (a:=(z8 (f.1+(1:Int))))).symm
   refine nr (lv (N2 rfl) (nq ?_))
   obtain⟨ag,bf,bg⟩:=ob bb
   refine l4 (fun E' w'=>∃cs111 C,E'=[(0,sv q0),(1,sv q1),(5,V3 (some ⟨b,0,none⟩) m13 m13),(7,V6 f.1)]∧SH w K [] w' C [s7 b cs111 3]∧M0 l C∧E1 true D6 C cs111 ag∧m13=ag.length) ?_ ?_
   ·refine j7 ?_
    obtain⟨cG,bh,bi⟩:=ob bf
    refine qw (fun (c:Int×Int×(List Int)) E' w'=>∃cs124 D,E'=[(0,sv q0),(1,sv q1),(5,V3 (some ⟨b,0,none⟩) m13 m13),(7,V6 f.1),(8,V6 c.1),(9,V6 c.2.1)]∧SH w K [] w' D [s7 b cs124 3]∧M0 l D∧i7 c.1∧i7 c.2.1∧E1 true D6 D cs124 c.2.2∧m13=c.2.2.length) bh ⟨cs99,l,rfl,be,kr,aY,I5,hrow101,hm103⟩ ?_
    rintro c _ cH cI bj bk ⟨cs124,D,rfl,ah,ai,bl,cJ,hrow125,hm126⟩
    refine o4 (sr (mv rfl (mv rfl (lv (J9 underlying9 rfl) (lv (u7 rfl rfl) (nq (D5 bj rfl (fun bm T=>?_) (fun bm T=>?_))))))))
    ·refine j3 (qs (j7 (sr (mv rfl (av rfl (ns (o4 (D4 mixed (by kernel_rfl) ah (km rfl ?_)))))))))
     refine km rfl ?_
     obtain⟨cK,bn,bo⟩:=ob T
     refine kv (N9 underlying9 rfl rfl bn) (km rfl (km rfl ?_))
     obtain⟨cL,bp,bq⟩:=ob bo
     refine kv (N9 underlying9 rfl rfl bp) (kv (a8H rfl rfl) (B4 ?_))
     rintro cM ⟨U,aj,x⟩
     refine l5 ?_
     obtain⟨ak,br,bs⟩:=ob bq
     refine l4 (IW w K [] U [(0,sv q0),(1,sv q1),(5,V3 (some ⟨b,0,none⟩) m13 m13),(7,V6 f.1),(9,V6 c.2.1),(10,V6 ak)] [s7 b cs124 3] (i7 ak)) ?_ ?_
     ·refine D5 br rfl (fun bu V=>?_) (fun bu V=>?_)
      ·refine j5 (mv rfl (lv (y7 rfl rfl) (av rfl (i8 ?_))))
       cases oi V
       exact qd ⟨U,rfl,aj,kr,(u0 _)⟩
      refine j3 ?_
      cases oi V
      exact qd ⟨U,rfl,aj,kr,bl⟩
     rintro _ cN ⟨bv,rfl,al,y,bx⟩
     refine qr (mv rfl (mv rfl (lv (y7 rfl rfl) ?_)))
     obtain⟨bz,am,bA⟩:=ob bs
     obtain⟨cO,bB,bC⟩:=E1.at (E1.mono (x.trans y) hrow125) am
     obtain⟨rfl,bD⟩:=bB
     have bE: ∀(j:Nat) (d:Value),[V6 bz][j]? =some d→cs124[(z8 (c.2.1+(1:Int))).toNat*D6.size+j]? =some d:=bC
     refine lv (J7 (t:=D6) underlying46 E6 rfl rfl hm126 am) (lv (a1B E6 rfl rfl (bE 0 _ rfl) (al.hasObj (.head _))) (av rfl (nq ?_)))
     have G:=al.drew
     refine wh1 (fun w'=>H0 bv w') (fun w'=>B0 b cs124 w') 17 [(7,13),(7,16),(7,17),(12,13),(12,16),(12,17),(13,14),(13,15),(13,16),(13,17),(14,15),(14,16),(14,17),(15,16),(15,17),(16,17)] mixed (G.hasK kr) (fun _=>G.hasObj (.head _)) (gt (i5 rfl) (gt (i5 rfl) (gt (y7 rfl rfl) (gt (i5 rfl) (gt (i5 rfl) (gt (i5 rfl) ?_))))))
     obtain⟨bF,an,bG⟩:=ob bA
     obtain⟨cP,bH,bI⟩:=E1.at (E1.mono (x.trans y) hrow125) an
     obtain⟨rfl,bJ⟩:=bH
     have bK: ∀(j:Nat) (d:Value),[V6 bF][j]? =some d→cs124[c.2.1.toNat*D6.size+j]? =some d:=bI
     refine gt (J7 (t:=D6) underlying46 E6 rfl rfl hm126 an) (gf (fun _ h=>(a1B E6 rfl rfl (bK 0 _ rfl) h)) (gt (i5 rfl) (gt (i5 rfl) (gt (y7 rfl rfl) ?_))))
     obtain⟨bL,ao,bM⟩:=ob bG
     obtain⟨cQ,bN,bO⟩:=E1.at (E1.mono (x.trans y) hrow125) ao
     obtain⟨rfl,bP⟩:=bN
     have bQ: ∀(j:Nat) (d:Value),[V6 bL][j]? =some d→cs124[(z8 (c.2.1+(1:Int))).toNat*D6.size+j]? =some d:=bO
     refine gt (J7 (t:=D6) underlying46 E6 rfl rfl hm126 ao) (gf (fun _ h=>(a1B E6 rfl rfl (bQ 0 _ rfl) h)) (gn ?_))
     obtain⟨cR,bR,bS⟩:=ob bM
     refine lk c33 (a9E F G.enter0 bJ bP bR) ?_
     rintro cS cT ⟨cU,rfl,q,cV⟩
     have H:=(G.c0 q).t1
     refine i8 (qh (H.hasK q.le) (fun _=>H.hasObj (.head _)) (gt (y7 rfl rfl) (gn ?_)))
     obtain⟨W,bT,bU⟩:=ob bS
     refine lk c33 (a9E F H.enter0 bx (u0 _) bT) ?_
     rintro cW cX ⟨bV,rfl,A,bW⟩
     have X:=(H.c0 A).t1
     refine i8 (qh (X.hasK (q.le.trans A.le)) (fun _=>X.hasObj (.head _)) ?_)
     obtain⟨bX,Y,bY⟩:=ob bU
     obtain⟨cY,bZ,ca⟩:=E1.at (E1.mono (((x.trans y).trans q.le).trans A.le) hrow125) Y
     obtain⟨rfl,cZ⟩:=bZ
     have da: ∀(j:Nat) (d:Value),[V6 bX][j]? =some d→cs124[(z8 (c.2.1+(1:Int))).toNat*D6.size+j]? =some d:=ca
     refine gt (J7 (t:=D6) underlying46 E6 rfl rfl hm126 Y) (gn (a3b (t:=D6) (v:=V6 W) (e:=W) wn E6 rfl rfl ⟨rfl,bW⟩ X (E1.mono (((x.trans y).trans q.le).trans A.le) hrow125) Y fun cs204 db hrow206 ap=>?_))
     have hm208:=hm126.trans (List.length_set (i:=(z8 (c.2.1+(1:Int))).toNat) (a:=W)).symm
     refine i8 (qh (ap.hasK (q.le.trans A.le)) (fun h=>by cases h) (gd' (x8 (l5 (j5 (mv rfl (lv (y7 rfl rfl) (av rfl (i8 ?_)))))))))
     cases oi bY
     exact qd ⟨_,rfl,cs204,bV,rfl,ap,((((ai.trans x).trans y).trans q.le).trans A.le),bD,(u0 _),hrow206,hm208⟩
    refine y4 (g8 (g8 ?_))
    cases oi T
    cases bk _ rfl
    refine l6 ?_
    cases oi bi
    exact qd ⟨cs124,D,rfl,ah,ai,hrow125,hm126⟩
   rintro _ dc ⟨cs111,C,rfl,cb,cc,hrow112,hm113⟩
   refine x8 (l5 (j5 (mv rfl (lv (y7 rfl rfl) (av rfl (i8 ?_))))))
   cases oi bg
   exact qd ⟨_,rfl,cs111,C,rfl,cb,(ae.trans cc),(u0 _),hrow112,hm113⟩
  refine y4 (g8 (g8 ?_))
  cases oi R
  cases aS _ rfl
  refine l6 ?_
  cases oi aQ
  exact qd ⟨cs75,l,rfl,O,ae,hrow76,hm77⟩
 rintro _ dd ⟨cs63,B,rfl,aq,de,hrow64,hm65⟩
 refine qr (mv rfl (mv rfl (lv (J9 underlying9 rfl) ?_)))
 obtain⟨cd,ar,ce⟩:=ob aO
 obtain⟨df,cf,cg⟩:=E1.at hrow64 ar
 obtain⟨rfl,ch⟩:=cf
 have cj: ∀(j:Nat) (d:Value),[V6 cd][j]? =some d→cs63[(q1.length:Int).toNat*D6.size+j]? =some d:=cg
 refine lv (J7 (t:=D6) underlying46 E6 rfl rfl hm65 ar) (lv (a1B E6 rfl rfl (cj 0 _ rfl) (aq.hasObj (.head _))) (av rfl (nq (j9 ?_))))
 cases oi ce
 exact ey results177 ⟨B,rfl,aq.s,ch⟩

theorem b2G {q0:A5}{q1:q7}{q2:Int}{r:Int}(hS:SH w K [] w K [])(an:b7 F6 K A a b q0.Docs)(R:b7 B8 K B c d q0.Entries)(bm:i7 q1.Kind)(ao:q1.Field.length≤maxLen)(ap:b7 D9 K C f i q1.Words)(bn:i7 q1.From)(bo:i7 q1.To)(bp:b7 F4 K D k l q1.Kids)(aq:i7 q2)(hm:a2L F q0 q1 q2=some r):
  Calls prog 132 #[.agg #[V3 A a b,V3 B c d],.agg #[V6 q1.Kind,sv q1.Field,V3 C f i,V6 q1.From,V6 q1.To,V3 D k l],V6 q2] w (R_i w K r):=by
 rw [a2L] at hm
 refine ci func132 rfl ntmps132 (sr (bx rfl hS fun y bq ar=>?_))
 have au:SH _ _ _ _ _ [s7 y [V3 A a b,V3 B c d] 30]:=ar
 refine bx rfl au fun G br aw=>?_
 have ax:SH _ _ _ _ _ [s7 G [V6 q1.Kind,sv q1.Field,V3 C f i,V6 q1.From,V6 q1.To,V3 D k l] 35,_]:=aw
 refine lv (N2 rfl) (nr (lv (N2 rfl) (O7 (lv (N2 rfl) (nq ?_)))))
 obtain⟨af,ay,az⟩:=ob hm
 refine l4 (IW w K [] K [(7,V6 af)] [] (i7 af)) ?_ ?_
 ·refine j7 ?_
  obtain⟨bs,aA,aB⟩:=ob ay
  refine qw (fun (q:Int×Int)=>IW w K [] K [(2,V6 q2),(3,pt y),(4,pt G),(7,V6 q.1),(8,V6 q.2)] [s7 y [V3 A a b,V3 B c d] 30,s7 G [V6 q1.Kind,sv q1.Field,V3 C f i,V6 q1.From,V6 q1.To,V3 D k l] 35] (i7 q.1∧i7 q.2)) aA ⟨K,rfl,ax.f1,kr,I5,I5⟩ ?_
  rintro q _ bu bv aC aD ⟨aE,rfl,H,o,S,bz⟩
  refine o4 (sr (mv rfl (fl M2 rfl a1e m0 H rfl (lv (q9 underlying28 rfl (R.mono o)) (lv (u7 rfl rfl) (nq (D5 aC rfl (fun aF T=>?_) (fun aF T=>?_))))))))
  ·refine j3 (qs (j7 (sr (fl M2 rfl a1e m0 H rfl (mv rfl ?_)))))
   obtain⟨s,aG,aH⟩:=ob T
   refine li underlying28 P2 (R.mono o) aG fun aI aJ bA aK aL=>?_
   obtain⟨U,V,W,rfl,bB,X,bC⟩:=aK
   have aM:F1 _ aI aJ [sv s.Field,sv s.Term,V3 U V W]:=aL
   refine lv (F3 P2 rfl H aM rfl) (al P2 H fun Y bD aN=>?_)
   have aO:SH _ _ _ _ _ [s7 Y [sv [],sv [],V3 none 0 0] 99,_,_]:=aN
   refine lw [sv s.Field,sv s.Term,V3 U V W] P2 aO fun bE ag=>(ns (D4 mixed (by kernel_rfl) ag (kv (c7 a21 rfl) (kh (z6 G7 rfl m0 rfl) (kv (c7 a0B rfl) (kh (z6 W1 rfl m2 rfl) ?_))))))
   obtain⟨aP,aQ,aR⟩:=ob aH
   refine ki underlying23 G7 (ap.mono o) aQ fun aS aT bF aU aV=>?_
   obtain⟨rfl,ah⟩:=aU
   have aW:F1 _ aS aT [sv aP]:=aV
   refine kh (C1 G7 rfl (aW 0 _ rfl)) ?_
   obtain⟨aX,ai,aY⟩:=ob aR
   refine kd c57 (fun _ _ aZ bG=>(a9D F) aZ.enter0 X ah ai) ?_
   obtain⟨_,_,_,⟨_,_,_,bH⟩,_⟩:=(a9D F) ag.enter0 X ah ai []
   refine kv (u9 rfl) (B4 ?_)
   rintro bI ⟨aa,I,J⟩
   refine qs (o4 ?_)
   obtain⟨ba,bb,bc⟩:=ob aY
   refine l4 (IV w K [] aa [(2,V6 q2),(3,pt y),(4,pt G),(7,V6 q.1),(8,V6 q.2),(9,pt Y),(10,V6 aX),(41,.bool ba)] [s7 y [V3 A a b,V3 B c d] 30,s7 G [V6 q1.Kind,sv q1.Field,V3 C f i,V6 q1.From,V6 q1.To,V3 D k l] 35,s7 Y [sv s.Field,sv s.Term,V3 U V W] 99]) ?_ ?_
   ·refine j5 (fl a3z rfl G7 m0 I rfl (fl Z3 rfl G7 m2 I rfl (lv (a2C rfl rfl) (mv rfl (bt bb (fun m ab=>?_) (fun m ab=>?_))))))
    ·refine lu m (lu m (lu m (lu m (lv (J6 rfl m rfl) (i8 ?_)))))
     cases oi ab
     exact qd ⟨aa,rfl,I.f2.f2,kr⟩
    refine lg m (i5 rfl) (lg m (c7 a1w rfl) (lg m (w8 E6 rfl m2 I rfl) (lg m (E7 rfl rfl) (lv (l9 rfl m rfl) (i8 ?_)))))
    cases oi ab
    exact qd ⟨aa,rfl,I.f2.f2,kr⟩
   rintro _ bJ ⟨bd,rfl,x,O⟩
   refine l5 (D5 bc rfl (fun be ac=>?_) (fun be ac=>?_))
   ·refine y4 (g8 (l6 (l5 (j5 (mv rfl (lv (y7 rfl rfl) (av rfl (i8 ?_))))))))
    cases oi ac
    exact qd ⟨_,rfl,bd,rfl,x.s,((o.trans J).trans O),S,(u0 _)⟩
   refine j3 (qr (lv (j6 (ds:=[V3 A a b,V3 B c d]) C4 rfl m0 x rfl rfl) (fl Z3 rfl G7 m1 x rfl (fl a21 rfl G7 m2 x rfl (mv rfl ?_)))))
   obtain⟨bK,bf,bg⟩:=ob ac
   refine lk c1y (a0W F x.enter0 (an.mono ((o.trans J).trans O)) (R.mono ((o.trans J).trans O)) ao X aq bf) ?_
   rintro bL bM ⟨aj,rfl,ad,bN⟩
   have ak:=(x.c0 ad).t3
   refine mv rfl (lv (I6 rfl rfl) (lv (U4 rfl rfl) ?_))
   obtain⟨bO,am,bh⟩:=ob bg
   refine lv (a4D rfl rfl am) (av rfl (nr (mv rfl (mv rfl (lv (E7 rfl rfl) (nq (D5 bh rfl (fun bi ae=>?_) (fun bi ae=>?_))))))))
   ·refine j5 (mv rfl (av rfl (nb (l5 (j5 (mv rfl (lv (y7 rfl rfl) (av rfl (i8 ?_)))))))))
    cases oi ae
    exact qd ⟨_,rfl,aj,rfl,ak.s,(((o.trans J).trans O).trans ad.le),(a32 am),(u0 _)⟩
   refine j3 (x8 (l5 (j5 (mv rfl (lv (y7 rfl rfl) (av rfl (i8 ?_)))))))
   cases oi ae
   exact qd ⟨_,rfl,aj,rfl,ak.s,(((o.trans J).trans O).trans ad.le),S,(u0 _)⟩
  refine y4 (g8 (g8 ?_))
  cases oi T
  cases aD _ rfl
  refine l6 ?_
  cases oi aB
  exact qd ⟨aE,rfl,H.s,o,S⟩
 rintro _ bP ⟨bj,rfl,bk,bQ,bl⟩
 refine qr (mv rfl (av rfl (nq (j9 ?_))))
 cases oi az
 exact ey results132 ⟨bj,rfl,bk,bl⟩

theorem a7K {q0:Bool}{r:Int}(hS:SH w K [] w K [])(hm:a1p F q0=some r):
  Calls prog 133 #[.bool q0] w (R_i w K r):=by
 rw [a1p] at hm
 refine ci func133 rfl ntmps133 (sr (lv (N2 rfl) (O7 (mv rfl (nq (R9 rfl (fun a=>?_) (fun a=>?_)))))))
 ·have b:=a1a a hm
  refine sr (lv (u9 (v:=V6 100) rfl) (nq (rr ?_)))
  cases oi b
  exact ey results133 ⟨K,rfl,hS,(by decide :i7 100)⟩
 have b:=a09 a hm
 refine j3 (qr (lv (N2 rfl) (nq (j9 ?_))))
 cases oi b
 exact ey results133 ⟨K,rfl,hS,I5⟩

theorem b3V (F:Nat): ∀{w:World} {K:F9} {q0:r4} {q1:r4} {r:Bool} (hS:SH w K [] w K []) (k:q0.length≤maxLen) (l:q1.length≤maxLen) (hm:S8 F q0 q1=some r),
  Calls prog 178 #[sv q0,sv q1] w (R_b w K r):=by
 induction F with
 | zero=>intros;rename_i hm;rw [S8] at hm;cases hm
 | succ F ih=>
  intro w K q0 q1 r hS k l hm
  rw [S8] at hm
  refine ci func178 rfl ntmps178 (sr (lv (O6 rfl) (O7 (mv rfl (lv (J8 (r:=([]:r4)) rfl rfl) (nq (R9 rfl (fun q=>?_) (fun q=>?_))))))))
  ·have s:=a1a q hm
   refine sr (mv rfl (lv (J8 (r:=([]:r4)) rfl rfl) (av rfl (nq (rr ?_)))))
   cases oi s
   exact ey results178 ⟨K,rfl,hS⟩
  have s:=a09 q hm
  refine j3 (qs (sr (mv rfl ?_)))
  obtain⟨x5,U,V⟩:=ob s
  refine lv (N9 underlying9 rfl rfl U) (lv (a91 (b:=(42:UInt8)) rfl rfl) (nq (D5 V rfl (fun W x=>?_) (fun W x=>?_))))
  ·refine o4 ?_
   obtain⟨X,Y,aa⟩:=ob x
   refine l4 (IV w K [] K [(4,.bool X)] []) ?_ ?_
   ·refine j5 (mv rfl ?_)
    obtain⟨aO,G,ab⟩:=ob Y
    refine lv (a00 underlying9 rfl rfl G) (mv rfl ?_)
    obtain⟨aP,ac,ad⟩:=ob ab
    refine lk b6w (ih hS.enter0 (a1V k G) l ac) ?_
    rintro aQ aR ⟨H,rfl,m⟩
    have o:=(hS.c0 m).t0
    refine mv rfl (bt ad (fun c y=>?_) (fun c y=>?_))
    ·refine lu c (lu c (lu c (A8 (uu rfl rfl) rfl (A8 (uu rfl rfl) rfl (A8 (uu rfl rfl) rfl (A8 (uu rfl rfl) rfl (lu c (lv (J6 rfl c rfl) (av rfl ?_)))))))))
     refine i8 ?_
     cases oi y
     exact qd ⟨H,rfl,o,m.le⟩
    refine lg c (i5 rfl) (lg c (a2C (r:=([]:r4)) rfl rfl) (lg c (i5 rfl) (bt y (fun d A=>?_) (fun d A=>?_))))
    ·refine lg d (i5 rfl) (lg d (i5 rfl) ?_)
     obtain⟨ae,I,af⟩:=ob A
     refine lg d (a00 underlying9 rfl rfl I) ?_
     obtain⟨aS,ag,ah⟩:=ob af
     refine A3 (wg rfl rfl d) rfl (A2 (vs:=[sv q0,sv ae]) b6w rfl) (ih o.enter0 k (a1V l I) ag) ?_
     rintro aT aU ⟨ai,rfl,J⟩
     refine⟨_,rfl,?_⟩
     have aj:=(o.c0 J).t0
     refine lg c (n9 rfl d rfl) (lv (l9 rfl c rfl) (av rfl (i8 ?_)))
     cases oi ah
     exact qd ⟨ai,rfl,aj,(m.le.trans J.le)⟩
    refine lu d (lu d (lu d (lu d (lg c (L8 rfl d rfl) (lv (l9 rfl c rfl) (av rfl (i8 ?_)))))))
    cases oi A
    exact qd ⟨H,rfl,o,m.le⟩
   rintro _ aV ⟨ak,rfl,al,aW⟩
   refine l5 (rr ?_)
   cases oi aa
   exact ey results178 ⟨ak,rfl,al⟩
  refine j3 (qs (D4 mixed (by kernel_rfl) hS (km rfl (kv (a2C (r:=([]:r4)) rfl rfl) (km rfl (bt x (fun a B=>?_) (fun a B=>?_)))))))
  ·refine kg a (i5 rfl) ?_
   obtain⟨aX,am,an⟩:=ob B
   refine kg a (N9 underlying9 rfl rfl am) (kg a (a91 (b:=(63:UInt8)) rfl rfl) (kg a (i5 rfl) (bt an (fun f C=>?_) (fun f C=>?_))))
   ·iterate 5 refine kn f ?_
    refine kg a (J6 rfl f rfl) (kv (n9 rfl a rfl) (km rfl (kg rfl (i5 rfl) ?_)))
    obtain⟨aY,O,ao⟩:=ob C
    refine kg rfl (a00 underlying9 rfl rfl O) (kg rfl (i5 rfl) ?_)
    obtain⟨aZ,R,ap⟩:=ob ao
    refine kg rfl (a00 underlying9 rfl rfl R) ?_
    obtain⟨ba,aq,ar⟩:=ob ap
    refine kcg rfl b6w (fun _ _ au bb=>ih au.enter0 (a1V k O) (a1V l R) aq) (kv (n9 rfl rfl rfl) (kv (u9 rfl) (B4 ?_)))
    rintro bc ⟨aw,ax,bd⟩
    refine l5 (j9 ?_)
    cases oi ar
    exact ey results178 ⟨aw,rfl,ax⟩
   refine kg f (i5 rfl) ?_
   obtain⟨be,ay,az⟩:=ob C
   refine kg f (N9 underlying9 rfl rfl ay) (kg f (i5 rfl) ?_)
   obtain⟨bf,aA,aB⟩:=ob az
   refine kg f (N9 underlying9 rfl rfl aA) (kg f (a91 rfl rfl) (kg a (l9 rfl f rfl) (kv (n9 rfl a rfl) (km rfl (bt aB (fun i D=>?_) (fun i D=>?_))))))
   ·refine kg i (i5 rfl) ?_
    obtain⟨bg,S,aC⟩:=ob D
    refine kg i (a00 underlying9 rfl rfl S) (kg i (i5 rfl) ?_)
    obtain⟨bh,T,aD⟩:=ob aC
    refine kg i (a00 underlying9 rfl rfl T) ?_
    obtain⟨bi,aE,aF⟩:=ob aD
    refine kcg i b6w (fun _ _ aG bj=>ih aG.enter0 (a1V k S) (a1V l T) aE) (kv (n9 rfl i rfl) (kv (u9 rfl) (B4 ?_)))
    rintro bk ⟨aH,aI,bl⟩
    refine l5 (j9 ?_)
    cases oi aF
    exact ey results178 ⟨aH,rfl,aI⟩
   iterate 5 refine kn i ?_
   refine kv (L8 rfl i rfl) (kv (u9 rfl) (B4 ?_))
   rintro bm ⟨aJ,aK,bn⟩
   refine l5 (j9 ?_)
   cases oi D
   exact ey results178 ⟨aJ,rfl,aK⟩
  refine kn a (kn a (kn a (kn a ?_)))
  iterate 5 refine ku ?_
  refine kn a (kv (L8 rfl a rfl) (km rfl ?_))
  iterate 5 refine qv rfl rfl rfl rfl ?_
  refine kv (L8 rfl rfl rfl) (kv (u9 rfl) (B4 ?_))
  rintro bo ⟨aL,aM,bp⟩
  refine l5 (j9 ?_)
  cases oi B
  exact ey results178 ⟨aL,rfl,aM⟩

theorem b2F {q0:A5}{q1:q7}{q2:Int}{r:Bool}(hS:SH w K [] w K [])(am:b7 F6 K A a b q0.Docs)(aa:b7 B8 K B c d q0.Entries)(bi:i7 q1.Kind)(an:q1.Field.length≤maxLen)(ao:b7 D9 K C f i q1.Words)(bj:i7 q1.From)(bk:i7 q1.To)(bl:b7 F4 K D k l q1.Kids)(ap:i7 q2)(hm:a2K F q0 q1 q2=some r):
  Calls prog 134 #[.agg #[V3 A a b,V3 B c d],.agg #[V6 q1.Kind,sv q1.Field,V3 C f i,V6 q1.From,V6 q1.To,V3 D k l],V6 q2] w (R_b w K r):=by
 rw [a2K] at hm
 refine ci func134 rfl ntmps134 (sr (bx rfl hS fun I bm aq=>?_))
 have ar:SH _ _ _ _ _ [s7 I [V3 A a b,V3 B c d] 30]:=aq
 refine bx rfl ar fun H bn au=>?_
 have aw:SH _ _ _ _ _ [s7 H [V6 q1.Kind,sv q1.Field,V3 C f i,V6 q1.From,V6 q1.To,V3 D k l] 35,_]:=au
 refine lv (O6 rfl) (O7 (lv (N2 rfl) (nq ?_)))
 obtain⟨ax,ay,X⟩:=ob hm
 refine l4 (IE ax w K [] K [] []) ?_ ?_
 ·refine j7 ?_
  obtain⟨bo,az,af⟩:=ob ay
  refine qw (fun (Y:Int)=>IW w K [] K [(2,V6 q2),(3,pt I),(4,pt H),(7,V6 Y)] [s7 I [V3 A a b,V3 B c d] 30,s7 H [V6 q1.Kind,sv q1.Field,V3 C f i,V6 q1.From,V6 q1.To,V3 D k l] 35] (i7 Y)) az ⟨K,rfl,aw.f1,kr,I5⟩ ?_
  rintro Y _ bp bq aA ag ⟨U,rfl,V,J,br⟩
  refine o4 (sr (mv rfl (fl M2 rfl a1e m0 V rfl (lv (q9 underlying28 rfl (aa.mono J)) (lv (u7 rfl rfl) (nq (D5 aA rfl (fun aB ab=>?_) (fun aB ab=>?_))))))))
  ·refine j3 (qs (j7 (sr (fl M2 rfl a1e m0 V rfl (mv rfl ?_)))))
   obtain⟨G,aC,aD⟩:=ob ab
   refine li underlying28 P2 (aa.mono J) aC fun aE aF bs aG aH=>?_
   obtain⟨O,R,S,rfl,bu,ah,bv⟩:=aG
   have aI:F1 _ aE aF [sv G.Field,sv G.Term,V3 O R S]:=aH
   refine lv (F3 P2 rfl V aI rfl) (al P2 V fun W bz aJ=>?_)
   have aK:SH _ _ _ _ _ [s7 W [sv [],sv [],V3 none 0 0] 99,_,_]:=aJ
   refine lw [sv G.Field,sv G.Term,V3 O R S] P2 aK fun bA aL=>(ns ?_)
   obtain⟨aM,aN,aO⟩:=ob aD
   refine l4 (IV w K [] U [(2,V6 q2),(3,pt I),(4,pt H),(7,V6 Y),(45,.bool aM)] [s7 I [V3 A a b,V3 B c d] 30,s7 H [V6 q1.Kind,sv q1.Field,V3 C f i,V6 q1.From,V6 q1.To,V3 D k l] 35]) ?_ ?_
   ·refine b6e (fun w'=>H0 U w'∧B0 W [sv G.Field,sv G.Term,V3 O R S] w'∧B0 H [V6 q1.Kind,sv q1.Field,V3 C f i,V6 q1.From,V6 q1.To,V3 D k l] w'∧B0 I [V3 A a b,V3 B c d] w') (fun w'=>True) 25 [] mixed ?_
    have m:=aL.drew
    refine T8 (i:=0) (listed':=L_ 25 0) (fun _=>True) rfl (by kernel_rfl) (l3 (l3 (y8 (l3 (l3 (y8 (l3 (l3 F8)))))))) (by kernel_rfl) rfl (by kernel_rfl) (by kernel_rfl) rfl (.inl fun _ _=>trivial) ⟨⟨m.hasK kr,m.hasObj m0,m.hasObj m2,m.hasObj m1⟩,(fun _=>trivial),by decide⟩ wn rfl (fun _ _=>(c7 a3z rfl)) (T8 (i:=1) (listed':=L_ 25 1) (B0 W [sv G.Field,sv G.Term,V3 O R S]) rfl (by kernel_rfl) (l3 (l3 (y8 (l3 (l3 (y8 (l3 (l3 F8)))))))) (by kernel_rfl) rfl (by kernel_rfl) (by kernel_rfl) rfl (.inl fun _ h=>h.2.1) ⟨⟨m.hasK kr,m.hasObj m0,m.hasObj m2,m.hasObj m1⟩,(fun _=>trivial),by decide⟩ wn rfl (fun _ h=>B5 G7 rfl rfl h) ?_)
    refine T8 (i:=2) (listed':=L_ 25 2) (fun _=>True) rfl (by kernel_rfl) (l3 (l3 (y8 (l3 (l3 (y8 (l3 (l3 F8)))))))) (by kernel_rfl) rfl (by kernel_rfl) (by kernel_rfl) rfl (.inl fun _ _=>trivial) ⟨⟨m.hasK kr,m.hasObj m0,m.hasObj m2,m.hasObj m1⟩,(fun _=>trivial),by decide⟩ wn rfl (fun _ _=>(c7 Z3 rfl)) (T8 (i:=3) (listed':=L_ 25 3) (B0 H [V6 q1.Kind,sv q1.Field,V3 C f i,V6 q1.From,V6 q1.To,V3 D k l]) rfl (by kernel_rfl) (l3 (l3 (y8 (l3 (l3 (y8 (l3 (l3 F8)))))))) (by kernel_rfl) rfl (by kernel_rfl) (by kernel_rfl) rfl (.inl fun _ h=>h.2.2.1) ⟨⟨m.hasK kr,m.hasObj m0,m.hasObj m2,m.hasObj m1⟩,(fun _=>trivial),by decide⟩ wn rfl (fun _ h=>B5 G7 rfl rfl h) ?_)
    refine T8 (i:=4) (listed':=L_ 25 4) (fun _=>True) rfl (by kernel_rfl) (l3 (l3 (y8 (l3 (l3 (y8 (l3 (l3 F8)))))))) (by kernel_rfl) rfl (by kernel_rfl) (by kernel_rfl) rfl (.inl fun _ _=>trivial) ⟨⟨m.hasK kr,m.hasObj m0,m.hasObj m2,m.hasObj m1⟩,(fun _=>trivial),by decide⟩ wn rfl (fun _ _=>(J8 rfl rfl)) (T8 (i:=5) (listed':=L_ 25 5) (fun _=>True) rfl (by kernel_rfl) (l3 (l3 (y8 (l3 (l3 (y8 (l3 (l3 F8)))))))) (by kernel_rfl) rfl (by kernel_rfl) (by kernel_rfl) rfl (.inl fun _ _=>trivial) ⟨⟨m.hasK kr,m.hasObj m0,m.hasObj m2,m.hasObj m1⟩,(fun _=>trivial),by decide⟩ wn rfl (fun _ _=>(i5 rfl)) (bt aN (fun x ac=>?_) (fun x ac=>?_)))
    ·refine T8 (i:=6) (listed':=L_ 25 6) (fun _=>True) rfl (by kernel_rfl) (l3 (l3 (y8 (l3 (l3 (y8 (l3 (l3 F8)))))))) (by kernel_rfl) rfl (by kernel_rfl) (by kernel_rfl) rfl (.inl fun _ _=>trivial) ⟨⟨m.hasK kr,m.hasObj m0,m.hasObj m2,m.hasObj m1⟩,(fun _=>trivial),by decide⟩ (wg rfl rfl x) rfl (fun _ _=>(c7 a0B rfl)) (T8 (i:=7) (listed':=L_ 25 7) (B0 H [V6 q1.Kind,sv q1.Field,V3 C f i,V6 q1.From,V6 q1.To,V3 D k l]) rfl (by kernel_rfl) (l3 (l3 (y8 (l3 (l3 (y8 (l3 (l3 F8)))))))) (by kernel_rfl) rfl (by kernel_rfl) (by kernel_rfl) rfl (.inl fun _ h=>h.2.2.1) ⟨⟨m.hasK kr,m.hasObj m0,m.hasObj m2,m.hasObj m1⟩,(fun _=>trivial),by decide⟩ (wg rfl rfl x) rfl (fun _ h=>B5 W1 rfl rfl h) ?_)
     obtain⟨ai,aP,aQ⟩:=ob ac
     refine b6g (t:=D9) (j:=8) (listed':=L_ 25 8) rfl (by kernel_rfl) (l3 (l3 (y8 (l3 (l3 (y8 (l3 (l3 F8)))))))) (by kernel_rfl) rfl (by kernel_rfl) (by kernel_rfl) rfl ⟨⟨m.hasK kr,m.hasObj m0,m.hasObj m2,m.hasObj m1⟩,(fun _=>trivial),by decide⟩ (wg rfl rfl x) rfl underlying23 G7 rfl rfl (ao.mono J) aP fun aR aS bB aT aU=>?_
     obtain⟨rfl,aV⟩:=aT
     have aW:F1 _ aR aS [sv ai]:=aU
     refine T8 (i:=9) (listed':=L_ 25 9) (H0 U) rfl (by kernel_rfl) (l3 (l3 (y8 (l3 (l3 (y8 (l3 (l3 F8)))))))) (by kernel_rfl) rfl (by kernel_rfl) (by kernel_rfl) rfl (.inl fun _ h=>h.1) ⟨⟨m.hasK kr,m.hasObj m0,m.hasObj m2,m.hasObj m1⟩,(fun _=>trivial),by decide⟩ (wg rfl rfl x) rfl (fun _ h=>a0Y G7 rfl (aW 0 _ rfl) h) (T8 (i:=10) (listed':=L_ 25 10) (fun _=>True) rfl (by kernel_rfl) (l3 (l3 (y8 (l3 (l3 (y8 (l3 (l3 F8)))))))) (by kernel_rfl) rfl (by kernel_rfl) (by kernel_rfl) rfl (.inl fun _ _=>trivial) ⟨⟨m.hasK kr,m.hasObj m0,m.hasObj m2,m.hasObj m1⟩,(fun _=>trivial),by decide⟩ (wg rfl rfl x) rfl (fun _ _=>(c7 a21 rfl)) ?_)
     refine T8 (i:=11) (listed':=L_ 25 11) (B0 W [sv G.Field,sv G.Term,V3 O R S]) rfl (by kernel_rfl) (l3 (l3 (y8 (l3 (l3 (y8 (l3 (l3 F8)))))))) (by kernel_rfl) rfl (by kernel_rfl) (by kernel_rfl) rfl (.inl fun _ h=>h.2.1) ⟨⟨m.hasK kr,m.hasObj m0,m.hasObj m2,m.hasObj m1⟩,(fun _=>trivial),by decide⟩ (wg rfl rfl x) rfl (fun _ h=>B5 G7 rfl rfl h) (a94 (i:=12) (by kernel_rfl) rfl ?_)
     obtain⟨bC,aX,aY⟩:=ob aQ
     refine A3 (wg rfl rfl x) rfl (A2 (vs:=[sv ai,sv G.Term]) b6w rfl) (b3V F m.enter0 aV ah aX) ?_
     rintro bD bE ⟨aZ,rfl,q⟩
     refine⟨_,rfl,?_⟩
     have o:=(m.c0 q).t3
     refine i8 (b0T (listed':=L_ 25 12) rfl ⟨⟨o.hasK q.le,o.hasObj m0,o.hasObj m2,o.hasObj m1⟩,(fun _=>trivial),by decide⟩ (T8 (i:=13) (listed':=L_ 25 13) (fun _=>True) rfl (by kernel_rfl) (l3 (l3 (y8 (l3 (l3 (y8 (l3 (l3 F8)))))))) (by kernel_rfl) rfl (by kernel_rfl) (by kernel_rfl) rfl (.inl fun _ _=>trivial) ⟨⟨o.hasK q.le,o.hasObj m0,o.hasObj m2,o.hasObj m1⟩,(fun _=>trivial),by decide⟩ wn rfl (fun _ _=>(n9 rfl x rfl)) ?_))
     refine T8 (i:=14) (listed':=L_ 25 14) (fun _=>True) rfl (by kernel_rfl) (l3 (l3 (y8 (l3 (l3 (y8 (l3 (l3 F8)))))))) (by kernel_rfl) rfl (by kernel_rfl) (by kernel_rfl) rfl (.inl fun _ _=>trivial) ⟨⟨o.hasK q.le,o.hasObj m0,o.hasObj m2,o.hasObj m1⟩,(fun _=>trivial),by decide⟩ wn rfl (fun _ _=>(i5 rfl)) (bt aY (fun s ad=>?_) (fun s ad=>?_))
     ·refine T8 (i:=15) (listed':=L_ 25 15) (B0 I [V3 A a b,V3 B c d]) rfl (by kernel_rfl) (l3 (l3 (y8 (l3 (l3 (y8 (l3 (l3 F8)))))))) (by kernel_rfl) rfl (by kernel_rfl) (by kernel_rfl) rfl (.inl fun _ h=>h.2.2.2) ⟨⟨o.hasK q.le,o.hasObj m0,o.hasObj m2,o.hasObj m1⟩,(fun _=>trivial),by decide⟩ (wg rfl rfl s) rfl (fun _ h=>A0 (ds:=[V3 A a b,V3 B c d]) C4 rfl rfl rfl h) (T8 (i:=16) (listed':=L_ 25 16) (fun _=>True) rfl (by kernel_rfl) (l3 (l3 (y8 (l3 (l3 (y8 (l3 (l3 F8)))))))) (by kernel_rfl) rfl (by kernel_rfl) (by kernel_rfl) rfl (.inl fun _ _=>trivial) ⟨⟨o.hasK q.le,o.hasObj m0,o.hasObj m2,o.hasObj m1⟩,(fun _=>trivial),by decide⟩ (wg rfl rfl s) rfl (fun _ _=>(c7 Z3 rfl)) ?_)
      refine T8 (i:=17) (listed':=L_ 25 17) (B0 H [V6 q1.Kind,sv q1.Field,V3 C f i,V6 q1.From,V6 q1.To,V3 D k l]) rfl (by kernel_rfl) (l3 (l3 (y8 (l3 (l3 (y8 (l3 (l3 F8)))))))) (by kernel_rfl) rfl (by kernel_rfl) (by kernel_rfl) rfl (.inl fun _ h=>h.2.2.1) ⟨⟨o.hasK q.le,o.hasObj m0,o.hasObj m2,o.hasObj m1⟩,(fun _=>trivial),by decide⟩ (wg rfl rfl s) rfl (fun _ h=>B5 G7 rfl rfl h) (T8 (i:=18) (listed':=L_ 25 18) (fun _=>True) rfl (by kernel_rfl) (l3 (l3 (y8 (l3 (l3 (y8 (l3 (l3 F8)))))))) (by kernel_rfl) rfl (by kernel_rfl) (by kernel_rfl) rfl (.inl fun _ _=>trivial) ⟨⟨o.hasK q.le,o.hasObj m0,o.hasObj m2,o.hasObj m1⟩,(fun _=>trivial),by decide⟩ (wg rfl rfl s) rfl (fun _ _=>(c7 a21 rfl)) ?_)
      refine T8 (i:=19) (listed':=L_ 25 19) (B0 W [sv G.Field,sv G.Term,V3 O R S]) rfl (by kernel_rfl) (l3 (l3 (y8 (l3 (l3 (y8 (l3 (l3 F8)))))))) (by kernel_rfl) rfl (by kernel_rfl) (by kernel_rfl) rfl (.inl fun _ h=>h.2.1) ⟨⟨o.hasK q.le,o.hasObj m0,o.hasObj m2,o.hasObj m1⟩,(fun _=>trivial),by decide⟩ (wg rfl rfl s) rfl (fun _ h=>B5 G7 rfl rfl h) (T8 (i:=20) (listed':=L_ 25 20) (fun _=>True) rfl (by kernel_rfl) (l3 (l3 (y8 (l3 (l3 (y8 (l3 (l3 F8)))))))) (by kernel_rfl) rfl (by kernel_rfl) (by kernel_rfl) rfl (.inl fun _ _=>trivial) ⟨⟨o.hasK q.le,o.hasObj m0,o.hasObj m2,o.hasObj m1⟩,(fun _=>trivial),by decide⟩ (wg rfl rfl s) rfl (fun _ _=>(i5 rfl)) (a94 (i:=21) (by kernel_rfl) rfl ?_))
      obtain⟨bF,ba,bb⟩:=ob ad
      refine A3 (wg rfl rfl s) rfl (A2 (vs:=[.agg #[V3 A a b,V3 B c d],sv q1.Field,sv G.Term,V6 q2]) c1C rfl) (a6F F o.enter0 (am.mono (J.trans q.le)) (aa.mono (J.trans q.le)) an ah ap ba) ?_
      rintro bG bH ⟨bI,bJ,bK,bc,rfl,T,bd⟩
      refine⟨_,rfl,?_⟩
      have y:=(o.c0 T).t3
      refine i8 (b0T (listed':=L_ 25 21) rfl ⟨⟨y.hasK (q.le.trans T.le),y.hasObj m0,y.hasObj m2,y.hasObj m1⟩,(fun _=>trivial),by decide⟩ (T8 (i:=22) (listed':=L_ 25 22) (fun _=>True) rfl (by kernel_rfl) (l3 (l3 (y8 (l3 (l3 (y8 (l3 (l3 F8)))))))) (by kernel_rfl) rfl (by kernel_rfl) (by kernel_rfl) rfl (.inl fun _ _=>trivial) ⟨⟨y.hasK (q.le.trans T.le),y.hasObj m0,y.hasObj m2,y.hasObj m1⟩,(fun _=>trivial),by decide⟩ (wg rfl rfl s) rfl (fun _ _=>(q9 underlying46 rfl bd)) ?_))
      refine T8 (i:=23) (listed':=L_ 25 23) (fun _=>True) rfl (by kernel_rfl) (l3 (l3 (y8 (l3 (l3 (y8 (l3 (l3 F8)))))))) (by kernel_rfl) rfl (by kernel_rfl) (by kernel_rfl) rfl (.inl fun _ _=>trivial) ⟨⟨y.hasK (q.le.trans T.le),y.hasObj m0,y.hasObj m2,y.hasObj m1⟩,(fun _=>trivial),by decide⟩ (wg rfl rfl s) rfl (fun _ _=>(E7 rfl rfl)) (T8 (i:=24) (listed':=L_ 25 24) (fun _=>True) rfl (by kernel_rfl) (l3 (l3 (y8 (l3 (l3 (y8 (l3 (l3 F8)))))))) (by kernel_rfl) rfl (by kernel_rfl) (by kernel_rfl) rfl (.inl fun _ _=>trivial) ⟨⟨y.hasK (q.le.trans T.le),y.hasObj m0,y.hasObj m2,y.hasObj m1⟩,(fun _=>trivial),by decide⟩ wn rfl (fun _ _=>(n9 rfl s rfl)) (b07 (by kernel_rfl) ?_))
      cases oi bb
      exact qd ⟨bc,rfl,y.s,(q.le.trans T.le)⟩
     refine a3a (i:=15) (listed':=L_ 25 15) rfl (by kernel_rfl) (l3 (l3 (y8 (l3 (l3 (y8 (l3 (l3 F8)))))))) (by kernel_rfl) rfl (by kernel_rfl) (by kernel_rfl) rfl ⟨⟨o.hasK q.le,o.hasObj m0,o.hasObj m2,o.hasObj m1⟩,(fun _=>trivial),by decide⟩ (ug rfl rfl s) rfl (a3a (i:=16) (listed':=L_ 25 16) rfl (by kernel_rfl) (l3 (l3 (y8 (l3 (l3 (y8 (l3 (l3 F8)))))))) (by kernel_rfl) rfl (by kernel_rfl) (by kernel_rfl) rfl ⟨⟨o.hasK q.le,o.hasObj m0,o.hasObj m2,o.hasObj m1⟩,(fun _=>trivial),by decide⟩ (ug rfl rfl s) rfl ?_)
     refine a3a (i:=17) (listed':=L_ 25 17) rfl (by kernel_rfl) (l3 (l3 (y8 (l3 (l3 (y8 (l3 (l3 F8)))))))) (by kernel_rfl) rfl (by kernel_rfl) (by kernel_rfl) rfl ⟨⟨o.hasK q.le,o.hasObj m0,o.hasObj m2,o.hasObj m1⟩,(fun _=>trivial),by decide⟩ (ug rfl rfl s) rfl (a3a (i:=18) (listed':=L_ 25 18) rfl (by kernel_rfl) (l3 (l3 (y8 (l3 (l3 (y8 (l3 (l3 F8)))))))) (by kernel_rfl) rfl (by kernel_rfl) (by kernel_rfl) rfl ⟨⟨o.hasK q.le,o.hasObj m0,o.hasObj m2,o.hasObj m1⟩,(fun _=>trivial),by decide⟩ (ug rfl rfl s) rfl ?_)
     refine a3a (i:=19) (listed':=L_ 25 19) rfl (by kernel_rfl) (l3 (l3 (y8 (l3 (l3 (y8 (l3 (l3 F8)))))))) (by kernel_rfl) rfl (by kernel_rfl) (by kernel_rfl) rfl ⟨⟨o.hasK q.le,o.hasObj m0,o.hasObj m2,o.hasObj m1⟩,(fun _=>trivial),by decide⟩ (ug rfl rfl s) rfl (a3a (i:=20) (listed':=L_ 25 20) rfl (by kernel_rfl) (l3 (l3 (y8 (l3 (l3 (y8 (l3 (l3 F8)))))))) (by kernel_rfl) rfl (by kernel_rfl) (by kernel_rfl) rfl ⟨⟨o.hasK q.le,o.hasObj m0,o.hasObj m2,o.hasObj m1⟩,(fun _=>trivial),by decide⟩ (ug rfl rfl s) rfl (a94 (i:=21) (by kernel_rfl) rfl (lu s (i8 (b0T (listed':=L_ 25 21) rfl ⟨⟨o.hasK q.le,o.hasObj m0,o.hasObj m2,o.hasObj m1⟩,(fun _=>trivial),by decide⟩ ?_)))))
     refine a3a (i:=22) (listed':=L_ 25 22) rfl (by kernel_rfl) (l3 (l3 (y8 (l3 (l3 (y8 (l3 (l3 F8)))))))) (by kernel_rfl) rfl (by kernel_rfl) (by kernel_rfl) rfl ⟨⟨o.hasK q.le,o.hasObj m0,o.hasObj m2,o.hasObj m1⟩,(fun _=>trivial),by decide⟩ (ug rfl rfl s) rfl (a3a (i:=23) (listed':=L_ 25 23) rfl (by kernel_rfl) (l3 (l3 (y8 (l3 (l3 (y8 (l3 (l3 F8)))))))) (by kernel_rfl) rfl (by kernel_rfl) (by kernel_rfl) rfl ⟨⟨o.hasK q.le,o.hasObj m0,o.hasObj m2,o.hasObj m1⟩,(fun _=>trivial),by decide⟩ (ug rfl rfl s) rfl ?_)
     refine T8 (i:=24) (listed':=L_ 25 24) (fun _=>True) rfl (by kernel_rfl) (l3 (l3 (y8 (l3 (l3 (y8 (l3 (l3 F8)))))))) (by kernel_rfl) rfl (by kernel_rfl) (by kernel_rfl) rfl (.inl fun _ _=>trivial) ⟨⟨o.hasK q.le,o.hasObj m0,o.hasObj m2,o.hasObj m1⟩,(fun _=>trivial),by decide⟩ wn rfl (fun _ _=>(L8 rfl s rfl)) (b07 (by kernel_rfl) ?_)
     cases oi ad
     exact qd ⟨aZ,rfl,o.s,q.le⟩
    refine a3a (i:=6) (listed':=L_ 25 6) rfl (by kernel_rfl) (l3 (l3 (y8 (l3 (l3 (y8 (l3 (l3 F8)))))))) (by kernel_rfl) rfl (by kernel_rfl) (by kernel_rfl) rfl ⟨⟨m.hasK kr,m.hasObj m0,m.hasObj m2,m.hasObj m1⟩,(fun _=>trivial),by decide⟩ (ug rfl rfl x) rfl (a3a (i:=7) (listed':=L_ 25 7) rfl (by kernel_rfl) (l3 (l3 (y8 (l3 (l3 (y8 (l3 (l3 F8)))))))) (by kernel_rfl) rfl (by kernel_rfl) (by kernel_rfl) rfl ⟨⟨m.hasK kr,m.hasObj m0,m.hasObj m2,m.hasObj m1⟩,(fun _=>trivial),by decide⟩ (ug rfl rfl x) rfl ?_)
    refine a3a (i:=8) (listed':=L_ 25 8) rfl (by kernel_rfl) (l3 (l3 (y8 (l3 (l3 (y8 (l3 (l3 F8)))))))) (by kernel_rfl) rfl (by kernel_rfl) (by kernel_rfl) rfl ⟨⟨m.hasK kr,m.hasObj m0,m.hasObj m2,m.hasObj m1⟩,(fun _=>trivial),by decide⟩ (ug rfl rfl x) rfl (a3a (i:=9) (listed':=L_ 25 9) rfl (by kernel_rfl) (l3 (l3 (y8 (l3 (l3 (y8 (l3 (l3 F8)))))))) (by kernel_rfl) rfl (by kernel_rfl) (by kernel_rfl) rfl ⟨⟨m.hasK kr,m.hasObj m0,m.hasObj m2,m.hasObj m1⟩,(fun _=>trivial),by decide⟩ (ug rfl rfl x) rfl ?_)
    refine a3a (i:=10) (listed':=L_ 25 10) rfl (by kernel_rfl) (l3 (l3 (y8 (l3 (l3 (y8 (l3 (l3 F8)))))))) (by kernel_rfl) rfl (by kernel_rfl) (by kernel_rfl) rfl ⟨⟨m.hasK kr,m.hasObj m0,m.hasObj m2,m.hasObj m1⟩,(fun _=>trivial),by decide⟩ (ug rfl rfl x) rfl (a3a (i:=11) (listed':=L_ 25 11) rfl (by kernel_rfl) (l3 (l3 (y8 (l3 (l3 (y8 (l3 (l3 F8)))))))) (by kernel_rfl) rfl (by kernel_rfl) (by kernel_rfl) rfl ⟨⟨m.hasK kr,m.hasObj m0,m.hasObj m2,m.hasObj m1⟩,(fun _=>trivial),by decide⟩ (ug rfl rfl x) rfl (a94 (i:=12) (by kernel_rfl) rfl (lu x (i8 (b0T (listed':=L_ 25 12) rfl ⟨⟨m.hasK kr,m.hasObj m0,m.hasObj m2,m.hasObj m1⟩,(fun _=>trivial),by decide⟩ ?_)))))
    refine T8 (i:=13) (listed':=L_ 25 13) (fun _=>True) rfl (by kernel_rfl) (l3 (l3 (y8 (l3 (l3 (y8 (l3 (l3 F8)))))))) (by kernel_rfl) rfl (by kernel_rfl) (by kernel_rfl) rfl (.inl fun _ _=>trivial) ⟨⟨m.hasK kr,m.hasObj m0,m.hasObj m2,m.hasObj m1⟩,(fun _=>trivial),by decide⟩ wn rfl (fun _ _=>(L8 rfl x rfl)) (T8 (i:=14) (listed':=L_ 25 14) (fun _=>True) rfl (by kernel_rfl) (l3 (l3 (y8 (l3 (l3 (y8 (l3 (l3 F8)))))))) (by kernel_rfl) rfl (by kernel_rfl) (by kernel_rfl) rfl (.inl fun _ _=>trivial) ⟨⟨m.hasK kr,m.hasObj m0,m.hasObj m2,m.hasObj m1⟩,(fun _=>trivial),by decide⟩ wn rfl (fun _ _=>(i5 rfl)) ?_)
    refine a3a (i:=15) (listed':=L_ 25 15) rfl (by kernel_rfl) (l3 (l3 (y8 (l3 (l3 (y8 (l3 (l3 F8)))))))) (by kernel_rfl) rfl (by kernel_rfl) (by kernel_rfl) rfl ⟨⟨m.hasK kr,m.hasObj m0,m.hasObj m2,m.hasObj m1⟩,(fun _=>trivial),by decide⟩ (ug rfl rfl rfl) rfl (a3a (i:=16) (listed':=L_ 25 16) rfl (by kernel_rfl) (l3 (l3 (y8 (l3 (l3 (y8 (l3 (l3 F8)))))))) (by kernel_rfl) rfl (by kernel_rfl) (by kernel_rfl) rfl ⟨⟨m.hasK kr,m.hasObj m0,m.hasObj m2,m.hasObj m1⟩,(fun _=>trivial),by decide⟩ (ug rfl rfl rfl) rfl ?_)
    refine a3a (i:=17) (listed':=L_ 25 17) rfl (by kernel_rfl) (l3 (l3 (y8 (l3 (l3 (y8 (l3 (l3 F8)))))))) (by kernel_rfl) rfl (by kernel_rfl) (by kernel_rfl) rfl ⟨⟨m.hasK kr,m.hasObj m0,m.hasObj m2,m.hasObj m1⟩,(fun _=>trivial),by decide⟩ (ug rfl rfl rfl) rfl (a3a (i:=18) (listed':=L_ 25 18) rfl (by kernel_rfl) (l3 (l3 (y8 (l3 (l3 (y8 (l3 (l3 F8)))))))) (by kernel_rfl) rfl (by kernel_rfl) (by kernel_rfl) rfl ⟨⟨m.hasK kr,m.hasObj m0,m.hasObj m2,m.hasObj m1⟩,(fun _=>trivial),by decide⟩ (ug rfl rfl rfl) rfl ?_)
    refine a3a (i:=19) (listed':=L_ 25 19) rfl (by kernel_rfl) (l3 (l3 (y8 (l3 (l3 (y8 (l3 (l3 F8)))))))) (by kernel_rfl) rfl (by kernel_rfl) (by kernel_rfl) rfl ⟨⟨m.hasK kr,m.hasObj m0,m.hasObj m2,m.hasObj m1⟩,(fun _=>trivial),by decide⟩ (ug rfl rfl rfl) rfl (a3a (i:=20) (listed':=L_ 25 20) rfl (by kernel_rfl) (l3 (l3 (y8 (l3 (l3 (y8 (l3 (l3 F8)))))))) (by kernel_rfl) rfl (by kernel_rfl) (by kernel_rfl) rfl ⟨⟨m.hasK kr,m.hasObj m0,m.hasObj m2,m.hasObj m1⟩,(fun _=>trivial),by decide⟩ (ug rfl rfl rfl) rfl (a94 (i:=21) (by kernel_rfl) rfl (lu rfl (i8 (b0T (listed':=L_ 25 21) rfl ⟨⟨m.hasK kr,m.hasObj m0,m.hasObj m2,m.hasObj m1⟩,(fun _=>trivial),by decide⟩ ?_)))))
    refine a3a (i:=22) (listed':=L_ 25 22) rfl (by kernel_rfl) (l3 (l3 (y8 (l3 (l3 (y8 (l3 (l3 F8)))))))) (by kernel_rfl) rfl (by kernel_rfl) (by kernel_rfl) rfl ⟨⟨m.hasK kr,m.hasObj m0,m.hasObj m2,m.hasObj m1⟩,(fun _=>trivial),by decide⟩ (ug rfl rfl rfl) rfl (a3a (i:=23) (listed':=L_ 25 23) rfl (by kernel_rfl) (l3 (l3 (y8 (l3 (l3 (y8 (l3 (l3 F8)))))))) (by kernel_rfl) rfl (by kernel_rfl) (by kernel_rfl) rfl ⟨⟨m.hasK kr,m.hasObj m0,m.hasObj m2,m.hasObj m1⟩,(fun _=>trivial),by decide⟩ (ug rfl rfl rfl) rfl ?_)
    refine T8 (i:=24) (listed':=L_ 25 24) (fun _=>True) rfl (by kernel_rfl) (l3 (l3 (y8 (l3 (l3 (y8 (l3 (l3 F8)))))))) (by kernel_rfl) rfl (by kernel_rfl) (by kernel_rfl) rfl (.inl fun _ _=>trivial) ⟨⟨m.hasK kr,m.hasObj m0,m.hasObj m2,m.hasObj m1⟩,(fun _=>trivial),by decide⟩ wn rfl (fun _ _=>(L8 rfl rfl rfl)) (b07 (by kernel_rfl) ?_)
    cases oi ac
    exact qd ⟨U,rfl,m.s,kr⟩
   rintro _ bL ⟨aj,rfl,ak,be⟩
   refine l5 (D5 aO rfl (fun bf ae=>?_) (fun bf ae=>?_))
   ·refine sr (lv (r_t rfl) (nq (j9 (i9 (c9 (c9 ?_))))))
    cases oi ae
    cases ag _ rfl
    refine i9 (c9 ?_)
    cases oi af
    refine c9 ?_
    cases oi X
    exact ey results134 ⟨aj,rfl,ak.s⟩
   refine j3 (x8 (l5 (j5 (mv rfl (lv (y7 rfl rfl) (av rfl (i8 ?_)))))))
   cases oi ae
   exact qd ⟨_,rfl,aj,rfl,ak,(J.trans be),(u0 _)⟩
  refine y4 (g8 (g8 ?_))
  cases oi ab
  cases ag _ rfl
  refine l6 ?_
  cases oi af
  exact L6 ⟨_,U,rfl,rfl,V.s,J⟩ trivial
 rintro _ bM ⟨bN,bg,rfl,rfl,bh,bO⟩
 have X:=E9 X
 refine qr (lv (O6 rfl) (nq (j9 ?_)))
 cases oi X
 exact ey results134 ⟨bg,rfl,bh⟩

theorem b4J {q0:A1}{q1:r4}{r:Int}(hS:SH w K [] w K [])(an:i7 q0.Id)(ao:b7 K5 K A a b q0.Fields)(l:b7 N0 K B c d q0.Nums)(ap:q1.length≤maxLen)(hm:a4p F q0 q1=some r):
  Calls prog 135 #[.agg #[V6 q0.Id,V3 A a b,V3 B c d],sv q1] w (R_i w K r):=by
 rw [a4p] at hm
 refine ci func135 rfl ntmps135 (sr (bx rfl hS fun m aq H=>?_))
 have I:SH _ _ _ _ _ [s7 m [V6 q0.Id,V3 A a b,V3 B c d] 44]:=H
 refine lv (N2 rfl) (O7 (lv (N2 rfl) (nq ?_)))
 obtain⟨J,O,k⟩:=ob hm
 refine l4 (IE J w K [] K [] []) ?_ ?_
 ·refine j7 ?_
  obtain⟨ar,R,y⟩:=ob O
  refine qw (fun (o:Int)=>IW w K [] K [(1,sv q1),(2,pt m),(5,V6 o)] [s7 m [V6 q0.Id,V3 A a b,V3 B c d] 44] (i7 o)) R ⟨K,rfl,I,kr,I5⟩ ?_
  rintro o _ au aw S C ⟨q,rfl,f,i,ax⟩
  refine o4 (sr (mv rfl (fl a1S rfl a7y m0 f rfl (lv (q9 underlying42 rfl (l.mono i)) (lv (u7 rfl rfl) (nq (D5 S rfl (fun T s=>?_) (fun T s=>?_))))))))
  ·refine j3 (qs (j7 (sr (fl a1S rfl a7y m0 f rfl (mv rfl ?_)))))
   obtain⟨D,U,V⟩:=ob s
   refine li underlying42 Y9 (l.mono i) U fun W X ay Y aa=>?_
   obtain⟨rfl,az,aA⟩:=Y
   have ab:F1 _ W X [sv D.Name,V6 D.Num]:=aa
   refine fa a6o rfl (lv (y9 G7 rfl f (ab 0 _ rfl)) (mv rfl (lv (J8 rfl rfl) (nq (D5 V rfl (fun ac x=>?_) (fun ac x=>?_))))))
   ·refine sr (fl a1S rfl a7y m0 f rfl (mv rfl ?_))
    obtain⟨G,ad,ae⟩:=ob x
    refine li underlying42 Y9 (l.mono i) ad fun af ag aB ah ai=>?_
    obtain⟨rfl,aC,aj⟩:=ah
    have ak:F1 _ af ag [sv G.Name,V6 G.Num]:=ai
    refine fa b2Z rfl (lv (y9 E6 rfl f (ak 1 _ rfl)) (av rfl (nq (j9 (i9 (c9 (c9 ?_)))))))
    cases oi ae
    cases C _ rfl
    refine i9 (c9 ?_)
    cases oi y
    refine c9 ?_
    cases oi k
    exact ey results135 ⟨q,rfl,f.s,aj⟩
   refine j3 (x8 (l5 (j5 (mv rfl (lv (y7 rfl rfl) (av rfl (i8 ?_)))))))
   cases oi x
   exact qd ⟨_,rfl,q,rfl,f,i,(u0 _)⟩
  refine y4 (g8 (g8 ?_))
  cases oi s
  cases C _ rfl
  refine l6 ?_
  cases oi y
  exact L6 ⟨_,q,rfl,rfl,f.s,i⟩ trivial
 rintro _ aD ⟨aE,al,rfl,rfl,am,aF⟩
 have k:=E9 k
 refine qr (lv (u9 (v:=V6 (-1)) rfl) (nq (j9 ?_)))
 cases oi k
 exact ey results135 ⟨al,rfl,am,(by decide :i7 (-1))⟩

theorem a1A (F:Nat): ∀{w:World} {K:F9} {q:Option Addr} {s x:Nat} {y:Option Addr} {A B:Nat} {b:Option Addr} {c d:Nat} {f:Option Addr} {i k:Nat} {H:Option Addr} {I J:Nat} {O:Option Addr} {R S:Nat} {q0:u6} {q1:A5} {q2:q7} {q3:Int} {r:Int} (hS:SH w K [] w K []) (C:b7 D9 K q s x q0.Stops) (D:b7 L0 K y A B q0.Syns) (l:b7 F6 K b c d q1.Docs) (m:b7 B8 K f i k q1.Entries) (ao:i7 q2.Kind) (W:q2.Field.length≤maxLen) (af:b7 D9 K H I J q2.Words) (ag:i7 q2.From) (ah:i7 q2.To) (T:b7 F4 K O R S q2.Kids) (o:i7 q3) (hm:G1 F q0 q1 q2 q3=some r),
  Calls prog 73 #[.agg #[V3 q s x,V3 y A B],.agg #[V3 b c d,V3 f i k],.agg #[V6 q2.Kind,sv q2.Field,V3 H I J,V6 q2.From,V6 q2.To,V3 O R S],V6 q3] w (R_i w K r):=by
 induction F with
 | zero=>intros;rename_i hm;rw [G1] at hm;cases hm
 | succ F ih=>
  intro w K q s x y A B b c d f i k H I J O R S q0 q1 q2 q3 r hS C D l m ao W af ag ah T o hm
  rw [G1] at hm
  refine ci func73 rfl ntmps73 (sr (bx rfl hS fun ai eH bL=>?_))
  have bM:SH _ _ _ _ _ [s7 ai [V3 q s x,V3 y A B] 26]:=bL
  refine bx rfl bM fun Y eI bN=>?_
  have bO:SH _ _ _ _ _ [s7 Y [V3 b c d,V3 f i k] 30,_]:=bN
  refine bx rfl bO fun aa eJ bP=>?_
  have a:SH _ _ _ _ _ [s7 aa [V6 q2.Kind,sv q2.Field,V3 H I J,V6 q2.From,V6 q2.To,V3 O R S] 35,_,_]:=bP
  refine lv (N2 rfl) (O7 (fl a6x rfl E6 m0 a rfl (nq (j7 (sr (lv (A9 rfl rfl) (av rfl (nq (R9 rfl (fun aC=>?_) (fun aC=>?_))))))))))
  ·have aD:=a1a aC hm
   refine sr (lv (u9 (v:=V6 100) rfl) (nq (j9 (i9 (c9 ?_)))))
   cases oi aD
   exact ey results73 ⟨K,rfl,a.s,(by decide :i7 100)⟩
  have aD:=a09 aC hm
  refine sr (lv (A9 rfl rfl) (av rfl (nq (D5 aD rfl (fun bQ aE=>?_) (fun bQ aE=>?_)))))
  ·refine o4 (D4 mixed (by kernel_rfl) a (kh (D8 (ds:=[V3 b c d,V3 f i k]) C4 rfl m1 rfl rfl) (kv (c7 Z3 rfl) (kh (z6 G7 rfl m0 rfl) (kh (D8 (ds:=[V3 q s x,V3 y A B]) B9 rfl m2 rfl rfl) (kv (c7 a0B rfl) (kh (z6 W1 rfl m0 rfl) ?_)))))))
   obtain⟨bR,bS,bT⟩:=ob aE
   refine ki underlying23 G7 af bS fun bU bV eK bW bX=>?_
   obtain⟨rfl,aT⟩:=bW
   have bY:F1 _ bU bV [sv bR]:=bX
   refine kh (C1 G7 rfl (bY 0 _ rfl)) ?_
   obtain⟨eL,aU,bZ⟩:=ob bT
   refine kd c67 (fun _ _ ca aV=>(a8x F) ca.enter0 (C.mono aV) (D.mono aV) aT aU) ?_
   obtain⟨_,_,_,⟨_,_,_,aW⟩,_⟩:=(a8x F) a.enter0 C D aT aU []
   refine km rfl ?_
   obtain⟨eM,aX,cb⟩:=ob bZ
   refine kd c1y (fun _ _ cc aY=>(a0W F) cc.enter0 (l.mono aY) (m.mono aY) W aW o aX) ?_
   obtain⟨_,_,_,⟨_,_,_,cd⟩,_⟩:=(a0W F) a.enter0 l m W aW o aX []
   refine kv (u9 rfl) (B4 ?_)
   rintro eN ⟨ce,cf,eO⟩
   refine l5 (j9 (i9 (c9 ?_)))
   cases oi cb
   exact ey results73 ⟨ce,rfl,cf.s,cd⟩
  refine sr (lv (A9 rfl rfl) (av rfl (nq (D5 aE rfl (fun cg aF=>?_) (fun cg aF=>?_)))))
  ·refine sr (lv (j6 (ds:=[V3 q s x,V3 y A B]) B9 rfl m2 a rfl rfl) (lv (j6 (ds:=[V3 b c d,V3 f i k]) C4 rfl m1 a rfl rfl) (lv (j6 (ds:=[V6 q2.Kind,sv q2.Field,V3 H I J,V6 q2.From,V6 q2.To,V3 O R S]) B1 rfl m0 a rfl rfl) (mv rfl ?_))))
   obtain⟨eP,ch,cj⟩:=ob aF
   refine lk c5F (b0M F a.enter0 C D l m ao W af ag ah T o ch) ?_
   rintro eQ eR ⟨ck,rfl,cl,cm⟩
   have cn:=(a.c0 cl).t3
   refine av rfl (nq (j9 (i9 (c9 ?_))))
   cases oi cj
   exact ey results73 ⟨ck,rfl,cn.s,cm⟩
  refine sr (lv (A9 rfl rfl) (av rfl (nq (D5 aF rfl (fun cp aG=>?_) (fun cp aG=>?_)))))
  ·refine sr (lv (j6 (ds:=[V3 b c d,V3 f i k]) C4 rfl m1 a rfl rfl) (lv (j6 (ds:=[V6 q2.Kind,sv q2.Field,V3 H I J,V6 q2.From,V6 q2.To,V3 O R S]) B1 rfl m0 a rfl rfl) (mv rfl ?_)))
   obtain⟨eS,cq,cr⟩:=ob aG
   refine lk c5G (b2G F a.enter0 l m ao W af ag ah T o cq) ?_
   rintro eT eU ⟨cs,rfl,ct,cu⟩
   have cv:=(a.c0 ct).t3
   refine av rfl (nq (j9 (i9 (c9 ?_))))
   cases oi cr
   exact ey results73 ⟨cs,rfl,cv.s,cu⟩
  refine sr (lv (A9 rfl rfl) (av rfl (nq (D5 aG rfl (fun cw aH=>?_) (fun cw aH=>?_)))))
  ·refine sr (lv (j6 (ds:=[V3 b c d,V3 f i k]) C4 rfl m1 a rfl rfl) (lv (j6 (ds:=[V6 q2.Kind,sv q2.Field,V3 H I J,V6 q2.From,V6 q2.To,V3 O R S]) B1 rfl m0 a rfl rfl) (mv rfl ?_)))
   obtain⟨eV,cx,cy⟩:=ob aH
   refine lk c5H (b2F F a.enter0 l m ao W af ag ah T o cx) ?_
   rintro eW eX ⟨eY,rfl,cz⟩
   have aZ:=(a.c0 cz).t3
   obtain⟨eZ,cA,cB⟩:=ob cy
   refine lk c3T (a7K F aZ.enter0 cA) ?_
   rintro fb fc ⟨cC,rfl,cD,cE⟩
   have cF:=(aZ.c0 cD).t3
   refine av rfl (nq (j9 (i9 (c9 ?_))))
   cases oi cB
   exact ey results73 ⟨cC,rfl,cF.s,cE⟩
  refine sr (lv (A9 rfl rfl) (av rfl (nq (D5 aH rfl (fun cG aI=>?_) (fun cG aI=>?_)))))
  ·refine o4 ?_
   have aj:=a.drew
   refine j_0 (fun w'=>H0 K w'∧B0 Y [V3 b c d,V3 f i k] w'∧B0 aa [V6 q2.Kind,sv q2.Field,V3 H I J,V6 q2.From,V6 q2.To,V3 O R S] w') 13 [] mixed ⟨aj.hasK kr,aj.hasObj m1,aj.hasObj m0⟩ (jh 0 rfl (fun _ h=>A0 (ds:=[V3 b c d,V3 f i k]) C4 rfl rfl rfl h.2.1) (jv 1 rfl (i5 rfl) (jv 3 rfl (c7 Z3 rfl) (jh 4 rfl (fun _ h=>B5 G7 rfl rfl h.2.2) (jv 6 rfl (c7 a1w rfl) (jh 7 rfl (fun _ h=>B5 E6 rfl rfl h.2.2) (jv 8 rfl (c7 a4L rfl) (jh 9 rfl (fun _ h=>B5 E6 rfl rfl h.2.2) (j1 2 rfl ?_)))))))))
   obtain⟨fd,cH,cI⟩:=ob aI
   refine lk c6B (a8y F aj.enter0 l m o cH) ?_
   rintro fe fg ⟨fh,fi,fj,fk,fm,fn,fo,rfl,ak,cJ,cK,cL⟩
   have al:=(aj.c0 ak).t3
   refine P0 ⟨al.hasK ak.le,al.hasObj m1,al.hasObj m0⟩ (j1 5 rfl ?_)
   obtain⟨fp,cM,cN⟩:=ob cI
   refine lk c5I (b4J F al.enter0 cJ cK cL W cM) ?_
   rintro fq fr ⟨fs,rfl,ap,cO⟩
   have am:=(al.c0 ap).t3
   refine P0 ⟨am.hasK (ak.le.trans ap.le),am.hasObj m1,am.hasObj m0⟩ (j1 10 rfl ?_)
   obtain⟨ft,cP,cQ⟩:=ob cN
   refine lk a7T (I9 F am.enter0 cO ag ah cP) ?_
   rintro fu fv ⟨fw,rfl,aJ⟩
   have an:=(am.c0 aJ).t3
   refine P0 ⟨an.hasK ((ak.le.trans ap.le).trans aJ.le),an.hasObj m1,an.hasObj m0⟩ (j1 11 rfl ?_)
   obtain⟨fx,cR,cS⟩:=ob cQ
   refine lk c3T (a7K F an.enter0 cR) ?_
   rintro fy fz ⟨cT,rfl,ba,cU⟩
   have aq:=(an.c0 ba).t3
   refine P0 ⟨aq.hasK (((ak.le.trans ap.le).trans aJ.le).trans ba.le),aq.hasObj m1,aq.hasObj m0⟩ (jv 12 rfl (u9 rfl) (jd (l5 (j9 (i9 (c9 ?_))))))
   cases oi cS
   exact ey results73 ⟨cT,rfl,aq.s,cU⟩
  refine sr (lv (A9 rfl rfl) (av rfl (nq (D5 aI rfl (fun cV aK=>?_) (fun cV aK=>?_)))))
  ·refine o4 (D4 mixed (by kernel_rfl) a (kv (c7 a1w rfl) (kh (z6 E6 rfl m0 rfl) (kh (D8 (ds:=[V3 q s x,V3 y A B]) B9 rfl m2 rfl rfl) (kh (D8 (ds:=[V3 b c d,V3 f i k]) C4 rfl m1 rfl rfl) (kv (c7 W9 rfl) (kh (z6 a5u rfl m0 rfl) ?_)))))))
   obtain⟨ar,cW,cX⟩:=ob aK
   refine ki underlying33 B1 T cW fun cY cZ fA da db=>?_
   obtain⟨dc,dd,de,df,dg,dh,rfl,bb,bc,bd,be,bf,bg⟩:=S9 da
   have di:F1 _ cY cZ [V6 ar.Kind,sv ar.Field,V3 dc dd de,V6 ar.From,V6 ar.To,V3 df dg dh]:=db
   refine kh (a1C B1 rfl di rfl) (km rfl ?_)
   obtain⟨fB,bh,dj⟩:=ob cX
   refine kd b78 (fun _ _ dk ab=>ih dk.enter0 (C.mono ab) (D.mono ab) (l.mono ab) (m.mono ab) bb bc (bd.mono ab) be bf (bg.mono ab) o bh) ?_
   obtain⟨_,_,_,⟨_,_,_,fC⟩,_⟩:=ih a.enter0 C D l m bb bc bd be bf bg o bh []
   refine kv (U4 rfl rfl) (kv (u9 rfl) (B4 ?_))
   rintro fD ⟨dl,dm,fE⟩
   refine l5 (j9 (i9 (c9 ?_)))
   cases oi dj
   exact ey results73 ⟨dl,rfl,dm.s,(u0 _)⟩
  refine sr (lv (A9 rfl rfl) (av rfl (nq (D5 aK rfl (fun dn aL=>?_) (fun dn aL=>?_)))))
  ·refine o4 (o4 (D4 mixed (by kernel_rfl) a (kh (D8 (ds:=[V3 q s x,V3 y A B]) B9 rfl m2 rfl rfl) (kh (D8 (ds:=[V3 b c d,V3 f i k]) C4 rfl m1 rfl rfl) (kv (c7 W9 rfl) (kh (z6 a5u rfl m0 rfl) ?_))))))
   obtain⟨au,dp,dq⟩:=ob aL
   refine ki underlying33 B1 T dp fun dr dt fF du dv=>?_
   obtain⟨dw,dx,dy,dz,dA,dB,rfl,bi,bj,bk,bl,bm,bn⟩:=S9 du
   have dC:F1 _ dr dt [V6 au.Kind,sv au.Field,V3 dw dx dy,V6 au.From,V6 au.To,V3 dz dA dB]:=dv
   refine kh (a1C B1 rfl dC rfl) (km rfl ?_)
   obtain⟨fG,bo,dD⟩:=ob dq
   refine kd b78 (fun _ _ dE ac=>ih dE.enter0 (C.mono ac) (D.mono ac) (l.mono ac) (m.mono ac) bi bj (bk.mono ac) bl bm (bn.mono ac) o bo) ?_
   obtain⟨_,_,_,⟨_,_,_,fH⟩,_⟩:=ih a.enter0 C D l m bi bj bk bl bm bn o bo []
   refine kv (E7 rfl rfl) (B4 ?_)
   rintro fI ⟨dF,aM,U⟩
   refine l5 (D5 dD rfl (fun dG aN=>?_) (fun dG aN=>?_))
   ·refine sr (lv (N2 rfl) (nq (rr (i9 (c9 ?_)))))
    cases oi aN
    exact ey results73 ⟨dF,rfl,aM.s,I5⟩
   refine j3 (qs (D4 mixed (by kernel_rfl) aM (kh (D8 (ds:=[V3 q s x,V3 y A B]) B9 rfl m2 rfl rfl) (kh (D8 (ds:=[V3 b c d,V3 f i k]) C4 rfl m1 rfl rfl) (kv (c7 W9 rfl) (kh (z6 a5u rfl m0 rfl) ?_))))))
   obtain⟨aw,dH,dI⟩:=ob aN
   refine ki underlying33 B1 (T.mono U) dH fun dJ dK fJ dL dM=>?_
   obtain⟨dN,dO,dP,dQ,dR,dS,rfl,bp,bq,br,bs,bu,bv⟩:=S9 dL
   have dT:F1 _ dJ dK [V6 aw.Kind,sv aw.Field,V3 dN dO dP,V6 aw.From,V6 aw.To,V3 dQ dR dS]:=dM
   refine kh (a1C B1 rfl dT rfl) (km rfl ?_)
   obtain⟨fK,bz,dU⟩:=ob dI
   refine kd b78 (fun _ _ dV ad=>ih dV.enter0 (C.mono (U.trans ad)) (D.mono (U.trans ad)) (l.mono (U.trans ad)) (m.mono (U.trans ad)) bp bq (br.mono ad) bs bu (bv.mono ad) o bz) ?_
   obtain⟨_,_,_,⟨_,_,_,dW⟩,_⟩:=ih aM.enter0 (C.mono U) (D.mono U) (l.mono U) (m.mono U) bp bq br bs bu bv o bz []
   refine kv (u9 rfl) (B4 ?_)
   rintro fL ⟨dX,dY,fM⟩
   refine l5 (j9 (i9 (c9 ?_)))
   cases oi dU
   exact ey results73 ⟨dX,rfl,dY.s,dW⟩
  refine j3 (x8 (qr (lv (N2 rfl) (O7 (lv (N2 rfl) (nq ?_))))))
  obtain⟨dZ,ea,ax⟩:=ob aL
  refine l4 (fun E' w'=>∃ay az,dZ= .inl ay∧E'=[(9,V6 ay)]∧SH w K [] w' az []∧M0 K az∧i7 ay) ?_ ?_
  ·refine j7 ?_
   obtain⟨fN,eb,bA⟩:=ob ea
   refine qw (fun (X:Int×Int)=>IW w K [] K [(3,V6 q3),(4,pt ai),(5,pt Y),(6,pt aa),(9,V6 X.1),(10,V6 X.2)] [s7 ai [V3 q s x,V3 y A B] 26,s7 Y [V3 b c d,V3 f i k] 30,s7 aa [V6 q2.Kind,sv q2.Field,V3 H I J,V6 q2.From,V6 q2.To,V3 O R S] 35] (i7 X.1∧i7 X.2)) eb ⟨K,rfl,a.f1.f2,kr,I5,I5⟩ ?_
   rintro X _ fO fP ec bB ⟨ed,rfl,aA,G,ee,fQ⟩
   refine o4 (sr (mv rfl (fl W9 rfl a5u m2 aA rfl (lv (q9 underlying33 rfl (T.mono G)) (lv (u7 rfl rfl) (nq (D5 ec rfl (fun ef aO=>?_) (fun ef aO=>?_))))))))
   ·refine j3 (qs (j7 (o4 (D4 mixed (by kernel_rfl) aA (kh (D8 (ds:=[V3 q s x,V3 y A B]) B9 rfl m0 rfl rfl) (kh (D8 (ds:=[V3 b c d,V3 f i k]) C4 rfl m1 rfl rfl) (kv (c7 W9 rfl) (kh (z6 a5u rfl m2 rfl) (km rfl ?_)))))))))
    obtain⟨aB,eg,eh⟩:=ob aO
    refine ki underlying33 B1 (T.mono G) eg fun ei ej fR ek el=>?_
    obtain⟨em,en,eo,ep,eq,es,rfl,bC,bD,bE,bF,bG,bH⟩:=S9 ek
    have et:F1 _ ei ej [V6 aB.Kind,sv aB.Field,V3 em en eo,V6 aB.From,V6 aB.To,V3 ep eq es]:=el
    refine kh (a1C B1 rfl et rfl) (km rfl ?_)
    obtain⟨eu,bI,ev⟩:=ob eh
    refine kd b78 (fun _ _ ew ae=>ih ew.enter0 (C.mono (G.trans ae)) (D.mono (G.trans ae)) (l.mono (G.trans ae)) (m.mono (G.trans ae)) bC bD (bE.mono ae) bF bG (bH.mono ae) o bI) ?_
    obtain⟨_,_,_,⟨_,_,_,fS⟩,_⟩:=ih aA.enter0 (C.mono G) (D.mono G) (l.mono G) (m.mono G) bC bD bE bF bG bH o bI []
    refine kv (u9 rfl) (B4 ?_)
    rintro fT ⟨aP,aQ,ex⟩
    refine qs (o4 ?_)
    obtain⟨eA,eB,eC⟩:=ob ev
    refine l4 (IV w K [] aP [(3,V6 q3),(4,pt ai),(5,pt Y),(6,pt aa),(9,V6 X.1),(10,V6 X.2),(11,V6 eu),(117,.bool eA)] [s7 ai [V3 q s x,V3 y A B] 26,s7 Y [V3 b c d,V3 f i k] 30,s7 aa [V6 q2.Kind,sv q2.Field,V3 H I J,V6 q2.From,V6 q2.To,V3 O R S] 35]) ?_ ?_
    ·refine j5 (mv rfl (lv (A9 rfl rfl) (mv rfl (bt eB (fun V aR=>?_) (fun V aR=>?_)))))
     ·refine lg V (c7 a6x rfl) (lg V (w8 E6 rfl m2 aQ rfl) (lg V (A9 rfl rfl) (lv (n9 rfl V rfl) (i8 ?_))))
      cases oi aR
      exact qd ⟨aP,rfl,aQ,kr⟩
     refine lu V (lu V (lu V (lv (L8 rfl V rfl) (i8 ?_))))
     cases oi aR
     exact qd ⟨aP,rfl,aQ,kr⟩
    rintro _ fU ⟨bJ,rfl,bK,eD⟩
    refine l5 (D5 eC rfl (fun eE aS=>?_) (fun eE aS=>?_))
    ·refine sr (lv (N2 rfl) (nq (rr (i9 (c9 (c9 ?_))))))
     cases oi aS
     cases bB _ rfl
     refine i9 (c9 ?_)
     cases oi bA
     refine c9 ?_
     cases oi ax
     exact ey results73 ⟨bJ,rfl,bK.s,I5⟩
    refine j3 (l5 (j5 (mv rfl (mv rfl (lv (y7 rfl rfl) (av rfl (nb (l5 (j5 ?_)))))))))
    refine mv rfl (lv (y7 rfl rfl) (av rfl (i8 ?_)))
    cases oi aS
    exact qd ⟨_,rfl,bJ,rfl,bK,((G.trans ex).trans eD),(u0 _),(u0 _)⟩
   refine y4 (g8 (g8 ?_))
   cases oi aO
   cases bB _ rfl
   refine l6 ?_
   cases oi bA
   exact qd ⟨_,ed,rfl,rfl,aA.s,G,ee⟩
  rintro _ fV ⟨ay,az,rfl,rfl,eF,fW,eG⟩
  have ax:=E9 ax
  refine qr (mv rfl (av rfl (nq (j9 ?_))))
  cases oi ax
  exact ey results73 ⟨az,rfl,eF,eG⟩

theorem a0K {q0:u6}{q1:A5}{q2:q7}{q3:Int}{r:Int}(hS:SH w K [] w K [])(ac:b7 D9 K A a b q0.Stops)(ad:b7 L0 K B c d q0.Syns)(T:b7 F6 K C f i q1.Docs)(U:b7 B8 K D k l q1.Entries)(ae:i7 q2.Kind)(af:q2.Field.length≤maxLen)(ag:b7 D9 K G m n q2.Words)(ah:i7 q2.From)(ai:i7 q2.To)(aj:b7 F4 K H o p q2.Kids)(ak:i7 q3)(hm:Q9 F q0 q1 q2 q3=some r):
  Calls prog 22 #[.agg #[V3 A a b,V3 B c d],.agg #[V3 C f i,V3 D k l],.agg #[V6 q2.Kind,sv q2.Field,V3 G m n,V6 q2.From,V6 q2.To,V3 H o p],V6 q3] w (R_i w K r):=by
 rw [Q9] at hm
 refine ci func22 rfl ntmps22 (sr (bx rfl hS fun V aP am=>?_))
 have an:SH _ _ _ _ _ [s7 V [V3 A a b,V3 B c d] 26]:=am
 refine bx rfl an fun W aQ ao=>?_
 have ap:SH _ _ _ _ _ [s7 W [V3 C f i,V3 D k l] 30,_]:=ao
 refine bx rfl ap fun X aR aq=>?_
 have O:SH _ _ _ _ _ [s7 X [V6 q2.Kind,sv q2.Field,V3 G m n,V6 q2.From,V6 q2.To,V3 H o p] 35,_,_]:=aq
 refine lv (N2 rfl) (ns (o4 ?_))
 obtain⟨ar,au,aw⟩:=ob hm
 refine l4 (IV w K [] K [(3,V6 q3),(4,pt V),(5,pt W),(6,pt X),(24,.bool ar)] [s7 V [V3 A a b,V3 B c d] 26,s7 W [V3 C f i,V3 D k l] 30,s7 X [V6 q2.Kind,sv q2.Field,V3 G m n,V6 q2.From,V6 q2.To,V3 H o p] 35]) ?_ ?_
 ·refine j5 (lv (j6 (ds:=[V3 A a b,V3 B c d]) B9 rfl m2 O rfl rfl) (lv (j6 (ds:=[V3 C f i,V3 D k l]) C4 rfl m1 O rfl rfl) ?_))
  obtain⟨aS,ax,ay⟩:=ob au
  refine lk c2R (a5K F O.enter0 ac ad T U ax) ?_
  rintro aT aU ⟨az,rfl,x⟩
  have R:=(O.c0 x).t3
  refine lv (A4 rfl) (mv rfl (bt ay (fun q Y=>?_) (fun q Y=>?_)))
  ·refine lu q (lu q (lu q (lv (J6 rfl q rfl) (mv rfl ?_))))
   iterate 5 refine lu rfl ?_
   refine lv (J6 rfl rfl rfl) (i8 ?_)
   cases oi Y
   exact qd ⟨az,rfl,R.f1.f2,x.le⟩
  refine lg q (j6 (ds:=[V6 q2.Kind,sv q2.Field,V3 G m n,V6 q2.From,V6 q2.To,V3 H o p]) B1 rfl m0 R rfl rfl) ?_
  obtain⟨aV,aA,aB⟩:=ob Y
  refine A3 (wg rfl rfl q) rfl (A2 (vs:=[.agg #[V6 q2.Kind,sv q2.Field,V3 G m n,V6 q2.From,V6 q2.To,V3 H o p]]) c4x rfl) (a6E F R.enter0 ae af (ag.mono x.le) ah ai (aj.mono x.le) aA) ?_
  rintro aW aX ⟨aC,rfl,J⟩
  refine⟨_,rfl,?_⟩
  have S:=(R.c0 J).t3
  refine lg q (A4 rfl) (lv (l9 rfl q rfl) (mv rfl (bt aB (fun s aa=>?_) (fun s aa=>?_))))
  ·iterate 5 refine lu s ?_
   refine lv (J6 rfl s rfl) (i8 ?_)
   cases oi aa
   exact qd ⟨aC,rfl,S.f1.f2,(x.le.trans J.le)⟩
  refine lg s (j6 (ds:=[V3 C f i,V3 D k l]) C4 rfl m1 S rfl rfl) (lg s (i5 rfl) ?_)
  obtain⟨aY,aD,aE⟩:=ob aa
  refine A3 (wg rfl rfl s) rfl (A2 (vs:=[.agg #[V3 C f i,V3 D k l],V6 q3]) c6B rfl) (a8y F S.enter0 (T.mono (x.le.trans J.le)) (U.mono (x.le.trans J.le)) ak aD) ?_
  rintro aZ ba ⟨bb,bc,bd,be,bf,bg,aF,rfl,al,bh,bi,bj⟩
  refine⟨_,rfl,?_⟩
  have aG:=(S.c0 al).t3
  refine lg s (b7s c4I E6 rfl (.inl ⟨rfl,rfl⟩)) (lg s (A9 rfl rfl) (lv (l9 rfl s rfl) (i8 ?_)))
  cases oi aE
  exact qd ⟨aF,rfl,aG.f1.f2,((x.le.trans J.le).trans al.le)⟩
 rintro _ bk ⟨aH,rfl,y,I⟩
 refine l5 (D5 aw rfl (fun aI ab=>?_) (fun aI ab=>?_))
 ·refine sr (lv (N2 rfl) (nq (rr ?_)))
  cases oi ab
  exact ey results22 ⟨aH,rfl,y.s,I5⟩
 refine j3 (qr (lv (j6 (ds:=[V3 A a b,V3 B c d]) B9 rfl m0 y rfl rfl) (lv (j6 (ds:=[V3 C f i,V3 D k l]) C4 rfl m1 y rfl rfl) (lv (j6 (ds:=[V6 q2.Kind,sv q2.Field,V3 G m n,V6 q2.From,V6 q2.To,V3 H o p]) B1 rfl m2 y rfl rfl) (mv rfl ?_)))))
 obtain⟨bl,aJ,aK⟩:=ob ab
 refine lk b78 (a1A F y.enter0 (ac.mono I) (ad.mono I) (T.mono I) (U.mono I) ae af (ag.mono I) ah ai (aj.mono I) ak aJ) ?_
 rintro bm bn ⟨aL,rfl,aM,aN⟩
 have aO:=(y.c0 aM).t3
 refine av rfl (nq (j9 ?_))
 cases oi aK
 exact ey results22 ⟨aL,rfl,aO.s,aN⟩

theorem c7B {q0:z7}{r:r4×z7}(hS:SH w K Z w K [s7 g1 [V3 A a b,V6 q0.p_] 141])(d:b7 tU8 K A a b q0.b_)(f:i7 q0.p_)(hm:a7W F q0=some r):
  Calls prog 97 #[.pointer (some ⟨g1,0,none⟩)] w fun e w'=>∃a_2 n_3 c_4 K',e= .returned (sv r.1)∧SH w K Z w' K' [s7 g1 [V3 a_2 n_3 c_4,V6 r.2.p_] 141]∧r.1.length≤maxLen∧b7 tU8 K' a_2 n_3 c_4 r.2.b_∧i7 r.2.p_:=by
 rw [a7W] at hm
 refine ci func97 rfl ntmps97 (sr (lv (r_s rfl) (nr (mv rfl (bw [[42],[99,42],[99,97,63],[42,115],[63,111,42],[99,42,116,42],[42,42,97],[42,63,42],[99,97,116],[116,63,112],[],[65,42],[63,42,63],[97,42,98,42,99,42,100,42,101,42,102,42,103],[42,63,97]] underlying23 G7 hS fun I J O i k l=>?_)))))
 obtain⟨R,m,o⟩:=ob hm
 have c:=l.f1
 refine lk b2o (J4 F c.e1 (d.mono i) f k m) ?_
 rintro S T ⟨q,s,x,y,rfl,B,C,D,G⟩
 have H:=(c.c1 B).t2
 refine av rfl (nq (j9 ?_))
 cases oi o
 exact ey results97 ⟨q,s,x,y,rfl,H.s,C,D,G⟩

theorem a7M {q0:z7}{r:r4×z7}(hS:SH w K Z w K [s7 g1 [V3 A a b,V6 q0.p_] 141])(d:b7 tU8 K A a b q0.b_)(f:i7 q0.p_)(hm:a1r F q0=some r):
  Calls prog 98 #[.pointer (some ⟨g1,0,none⟩)] w fun e w'=>∃a_2 n_3 c_4 K',e= .returned (sv r.1)∧SH w K Z w' K' [s7 g1 [V3 a_2 n_3 c_4,V6 r.2.p_] 141]∧r.1.length≤maxLen∧b7 tU8 K' a_2 n_3 c_4 r.2.b_∧i7 r.2.p_:=by
 rw [a1r] at hm
 refine ci func98 rfl ntmps98 (sr (lv (r_s rfl) (nr (mv rfl (bw [[99,97,116],[99,97,116,115],[99,97,114],[99,97,114,116],[100,111,103],[116,97,112],[116,111,112,115],[97,98,99,100,101,102,103,104,105,106,107,108],[97],[97,99,97,116]] underlying23 G7 hS fun I J O i k l=>?_)))))
 obtain⟨R,m,o⟩:=ob hm
 have c:=l.f1
 refine lk b2o (J4 F c.e1 (d.mono i) f k m) ?_
 rintro S T ⟨q,s,x,y,rfl,B,C,D,G⟩
 have H:=(c.c1 B).t2
 refine av rfl (nq (j9 ?_))
 cases oi o
 exact ey results98 ⟨q,s,x,y,rfl,H.s,C,D,G⟩

theorem c21 {q0:List UInt8}{r:r4×r4}(hS:SH w K [] w K [])(f:b7 tU8 K A a b q0)(hm:p9 F q0=some r):
  Calls prog 41 #[V3 A a b] w fun e w'=>∃K',e= .returned (.tuple #[sv r.1,sv r.2])∧SH w K [] w' K' []∧r.1.length≤maxLen∧r.2.length≤maxLen:=by
 rw [p9] at hm
 refine ci func41 rfl ntmps41 (sr (lv (r_s rfl) (lv (r_s rfl) (nr (mv rfl ?_)))))
 obtain⟨R,i,k⟩:=ob hm
 refine lk c1H (a2k F hS.enter0 f i) ?_
 rintro S T ⟨U,V,W,X,Y,rfl,l,m,o⟩
 have c:=(hS.c0 l).t1
 refine av rfl (nr (mv rfl ?_))
 obtain⟨aa,q,s⟩:=ob k
 refine lk c9y (c7B F c.e1 m o q) ?_
 rintro ab ac ⟨ad,ae,af,ag,rfl,x,y,B,C⟩
 have d:=(c.c1 x).t1
 refine av rfl (nr (mv rfl (mv rfl ?_)))
 obtain⟨ah,D,G⟩:=ob s
 refine lk c6F (a7M F d.e1 B C D) ?_
 rintro ai aj ⟨ak,al,am,H,rfl,I,J,an,ao⟩
 have O:=(d.c1 I).t1
 refine av rfl (av rfl (nq (j9 ?_)))
 cases oi G
 exact S7 (vs:=[_,_]) results41 ⟨rfl,rfl,trivial⟩ ⟨H,rfl,O.s,y,J⟩

theorem b1u {q0:u6}{q1:A5}{q2:r4}{r:(List r4)}(hS:SH w K [] w K [])(G:b7 D9 K A a b q0.Stops)(H:b7 L0 K B c d q0.Syns)(x:b7 F6 K C f i q1.Docs)(y:b7 B8 K D k l q1.Entries)(I:q2.length≤maxLen)(hm:a12 F q0 q1 q2=some r):
  Calls prog 42 #[.agg #[V3 A a b,V3 B c d],.agg #[V3 C f i,V3 D k l],sv q2] w fun e w'=>∃a_1 n_2 c_3 K',e= .returned (V3 a_1 n_2 c_3)∧SH w K [] w' K' [tail (V3 a_1 n_2 c_3) 9 1]∧b7 D9 K' a_1 n_2 c_3 r:=by
 rw [a12] at hm
 refine ci func42 rfl ntmps42 (sr (bx rfl hS fun J al O=>?_))
 have R:SH _ _ _ _ _ [s7 J [V3 A a b,V3 B c d] 26]:=O
 refine bx rfl R fun S am T=>?_
 have m:SH _ _ _ _ _ [s7 S [V3 C f i,V3 D k l] 30,_]:=T
 refine lv (r_n rfl) (O7 (lv (j6 (ds:=[V3 A a b,V3 B c d]) B9 rfl m1 m rfl rfl) (lv (j6 (ds:=[V3 C f i,V3 D k l]) C4 rfl m0 m rfl rfl) ?_)))
 obtain⟨an,U,V⟩:=ob hm
 refine lk a9k (J1 F m.enter0 G H x y U) ?_
 rintro ao ap ⟨aq,rfl,o⟩
 have q:=(m.c0 o).t2
 refine lv (A4 rfl) (nq (D5 V rfl (fun W s=>?_) (fun W s=>?_)))
 ·refine sr (b0 D9 underlying23 G7 q fun X ar Y au aa ab=>(av rfl (nq (rr ?_))))
  cases oi s
  exact ey results42 ⟨X,0,0,Y,rfl,ab.s,aa⟩
 refine j3 (qr (mv rfl ?_))
 obtain⟨aw,ac,ad⟩:=ob s
 refine lk c4E (b0F F q.e1 (x.mono o.le) (y.mono o.le) I ac) ?_
 rintro ax ay ⟨ae,af,ag,ah,rfl,ai,aj⟩
 have ak:=(q.c1 ai).t3
 refine av rfl (nq (j9 ?_))
 cases oi ad
 exact ey results42 ⟨ae,af,ag,ah,rfl,ak.s,aj⟩

theorem b5X {q0:List F7}{q1:Int}{r:(List Int)}(hS:SH w K [] w K [])(i:b7 S2 K A a b q0)(an:i7 q1)(hm:a5m F q0 q1=some r):
  Calls prog 44 #[V3 A a b,V6 q1] w fun e w'=>∃a_1 n_2 c_3 K',e= .returned (V3 a_1 n_2 c_3)∧SH w K [] w' K' []∧b7 D6 K' a_1 n_2 c_3 r:=by
 rw [a5m] at hm
 refine ci func44 rfl ntmps44 (sr (lv (r_n rfl) (O7 (lv (N2 rfl) (nq ?_)))))
 obtain⟨C,D,f⟩:=ob hm
 refine l4 (IE C w K [] K [] []) ?_ ?_
 ·refine j7 ?_
  obtain⟨ao,G,q⟩:=ob D
  refine qw (fun (k:Int)=>IW w K [] K [(0,V3 A a b),(1,V6 q1),(5,V6 k)] [] (i7 k)) G ⟨K,rfl,hS,kr,I5⟩ ?_
  rintro k _ ap aq H s ⟨l,rfl,c,d,ar⟩
  refine o4 (sr (mv rfl (mv rfl (lv (q9 underlying37 rfl (i.mono d)) (lv (u7 rfl rfl) (nq (D5 H rfl (fun I m=>?_) (fun I m=>?_))))))))
  ·refine j3 (qs (j7 (sr (mv rfl (mv rfl ?_)))))
   obtain⟨J,O,R⟩:=ob m
   refine li underlying37 a02 (i.mono d) O fun S T au U V=>?_
   obtain⟨W,X,Y,rfl,aw,ax⟩:=U
   have aa:F1 _ S T [V6 J.Doc,V3 W X Y]:=V
   refine fa a5U rfl (lv (y9 E6 rfl c (aa 0 _ rfl)) (mv rfl (lv (A9 rfl rfl) (nq (D5 R rfl (fun ab o=>?_) (fun ab o=>?_))))))
   ·refine sr (mv rfl (mv rfl ?_))
    obtain⟨ac,ad,ae⟩:=ob o
    refine li underlying37 a02 (i.mono d) ad fun af ag ay ah ai=>?_
    obtain⟨x,y,B,rfl,az,aj⟩:=ah
    have ak:F1 _ af ag [V6 ac.Doc,V3 x y B]:=ai
    refine fa a4M rfl (lv (y9 a1g rfl c (ak 1 _ rfl)) (av rfl (nq (j9 (i9 (c9 (c9 ?_)))))))
    cases oi ae
    cases s _ rfl
    refine i9 (c9 ?_)
    cases oi q
    refine c9 ?_
    cases oi f
    exact ey results44 ⟨x,y,B,l,rfl,c,aj⟩
   refine j3 (x8 (l5 (j5 (mv rfl (lv (y7 rfl rfl) (av rfl (i8 ?_)))))))
   cases oi o
   exact qd ⟨_,rfl,l,rfl,c,d,(u0 _)⟩
  refine y4 (g8 (g8 ?_))
  cases oi m
  cases s _ rfl
  refine l6 ?_
  cases oi q
  exact L6 ⟨_,l,rfl,rfl,c,d⟩ trivial
 rintro _ aA ⟨s9,al,rfl,rfl,am,aC⟩
 have f:=E9 f
 refine qr (lv (r_n rfl) (nq (j9 ?_)))
 cases oi f
 exact ey results44 ⟨none,0,0,al,rfl,am,(b7.nil _ _)⟩

theorem c7J {q0:Bool}{r:Int}(hS:SH w K [] w K [])(hm:a5F F q0=some r):
  Calls prog 46 #[.bool q0] w (R_i w K r):=by
 rw [a5F] at hm
 refine ci func46 rfl ntmps46 (sr (lv (N2 rfl) (O7 (mv rfl (nq (R9 rfl (fun a=>?_) (fun a=>?_)))))))
 ·have b:=a1a a hm
  refine sr (lv (u9 (v:=V6 100) rfl) (nq (rr ?_)))
  cases oi b
  exact ey results46 ⟨K,rfl,hS,(by decide :i7 100)⟩
 have b:=a09 a hm
 refine j3 (qr (lv (N2 rfl) (nq (j9 ?_))))
 cases oi b
 exact ey results46 ⟨K,rfl,hS,I5⟩

theorem c2J {q0:List UInt8}{q1:List UInt8}{r:Bool}(hS:SH w K [] w K [])(bD:b7 tU8 K A a b q0)(aU:b7 tU8 K B c d q1)(hG10:a4i y6 1 f G8 w)(hD: ¬dr.D)(hm:u4 F q0 q1=some r):
  Calls prog 10 #[V3 A a b,V3 B c d] w (R_b w K r):=by
 rw [u4] at hm
 refine ci func10 rfl ntmps10 (sr (lv (O6 rfl) (ns (o4 ?_))))
 obtain⟨bS,bT,bU⟩:=ob hm
 refine l4 (IV w K [] K [(0,V3 A a b),(1,V3 B c d),(29,.bool bS)] []) ?_ ?_
 ·refine j5 (mv rfl (lv (q9 underlying22 rfl bD) (lv (E7 rfl rfl) (mv rfl (bt bT (fun ax bf=>?_) (fun ax bf=>?_))))))
  ·refine lu ax (lu ax (lu ax (lv (J6 rfl ax rfl) (i8 ?_))))
   cases oi bf
   exact qd ⟨K,rfl,hS,kr⟩
  refine lg ax (i5 rfl) (lg ax (q9 underlying22 rfl aU) (lg ax (E7 rfl rfl) (lv (l9 rfl ax rfl) (i8 ?_))))
  cases oi bf
  exact qd ⟨K,rfl,hS,kr⟩
 rintro _ eR ⟨bV,rfl,bg,aV⟩
 refine l5 (D5 bU rfl (fun bW bh=>?_) (fun bW bh=>?_))
 ·refine sr (lv (r_t rfl) (nq (rr ?_)))
  cases oi bh
  exact ey results10 ⟨bV,rfl,bg⟩
 refine j3 (qr (mv rfl ?_))
 obtain⟨D,bX,bY⟩:=ob bh
 refine lk c2N (a0U F bg.enter0 (bD.mono aV) bX) ?_
 rintro eS eT ⟨I,J,O,R,S,T,U,V,W,X,Y,aa,eU,rfl,aW,aB,aC,ap,aD,aM,eV⟩
 have bZ:=(bg.c0 aW).t3
 refine mv rfl (lv (y3 rfl rfl) (lv (y3 rfl rfl) (lv (y3 rfl rfl) (lv (y3 rfl rfl) (al B9 bZ fun ac eW ca=>?_)))))
 have cb:SH _ _ _ _ _ [s7 ac [V3 none 0 0,V3 none 0 0] 26,_,_,_]:=ca
 refine al C4 cb fun ad eX cc=>?_
 have cd:SH _ _ _ _ _ [s7 ad [V3 none 0 0,V3 none 0 0] 30,_,_,_,_]:=cc
 refine lw [V3 I J O,V3 R S T] B9 cd.f1 fun eY ce=>(lw [V3 U V W,V3 X Y aa] C4 ce.f1 fun eZ bE=>(av rfl (av rfl (nr (mv rfl ?_)))))
 obtain⟨ak,cf,cg⟩:=ob bY
 refine lk c9r (c21 F bE.enter0 (aU.mono (aV.trans aW.le)) cf) ?_
 rintro fb fc ⟨fd,rfl,o,bF,fe⟩
 have ch:=(bE.c0 o).t5
 refine mv rfl (lv (y3 rfl rfl) (lv (y3 rfl rfl) (av rfl (av rfl (nr (mv rfl (mv rfl (lb D9 (sv ak.1) [sv ak.1] ak.1 underlying23 G7 ⟨rfl,bF⟩ ch fun am fg fh q bi cj=>(lv (C3 (cs:=#[V6 5,sv D.2.2.1,V3 am 1 1,V6 0,V6 0,V3 none 0 0]) a7c B1 rfl (by kernel_rfl)) ?_)))))))))
 refine al B1 cj fun ai fi ck=>?_
 have cl:SH _ _ _ _ _ [s7 ai [V6 0,sv [],V3 none 0 0,V6 0,V6 0,V3 none 0 0] 35,_,_,_,_,_,_]:=ck
 refine lw [V6 5,sv D.2.2.1,V3 am 1 1,V6 0,V6 0,V3 none 0 0] B1 cl fun fj cm=>(nr (mv rfl (lv (q9 underlying22 rfl (b7.mono (((aV.trans aW.le).trans o.le).trans q) aU)) ?_)))
 obtain⟨x,bG,cn⟩:=ob cg
 refine lv (a8J rfl rfl bG) (av rfl (nr (mv rfl (mv rfl (lv (y7 rfl rfl) (lv (C3 (cs:=#[V6 6,sv [114,97,116,101],V3 none 0 0,V6 x,V6 (z8 (x+(1:Int))),V3 none 0 0]) a7c B1 rfl (by kernel_rfl)) (al B1 cm fun aj fk cp=>?_)))))))
 have cq:SH _ _ _ _ _ [s7 aj [V6 0,sv [],V3 none 0 0,V6 0,V6 0,V3 none 0 0] 35,_,_,_,_,_,_,_]:=cp
 refine ls [V6 6,sv [114,97,116,101],V3 none 0 0,V6 x,V6 (z8 (x+(1:Int))),V3 none 0 0] (.agg #[V6 6,sv [114,97,116,101],V3 none 0 0,V6 x,V6 (z8 (x+(1:Int))),V3 none 0 0]) B1 cq fun fm aX=>(O7 (lv (j6 (ds:=[V3 I J O,V3 R S T]) B9 rfl m4 aX rfl rfl) (lv (j6 (ds:=[V3 U V W,V3 X Y aa]) C4 rfl m3 aX rfl rfl) ?_)))
 obtain⟨fn,cr,ct⟩:=ob cn
 refine lk a9k (J1 F aX.enter0 (aB.mono (o.le.trans q)) (aC.mono (o.le.trans q)) (ap.mono (o.le.trans q)) (aD.mono (o.le.trans q)) cr) ?_
 rintro fo fp ⟨fq,rfl,s⟩
 have aN:=(aX.c0 s).t8
 refine lv (A4 rfl) (nq (D5 ct rfl (fun cu bj=>?_) (fun cu bj=>?_)))
 ·refine o4 (D4 mixed (by kernel_rfl) aN (kh (D8 (ds:=[V3 I J O,V3 R S T]) B9 rfl m4 rfl rfl) (kh (D8 (ds:=[V3 U V W,V3 X Y aa]) C4 rfl m3 rfl rfl) ?_)))
  obtain⟨fr,cv,cw⟩:=ob bj
  refine kc a9k (fun _ _ cx aY=>(J1 F) cx.enter0 (b7.mono (((o.le.trans q).trans s.le).trans aY) aB) (b7.mono (((o.le.trans q).trans s.le).trans aY) aC) (b7.mono (((o.le.trans q).trans s.le).trans aY) ap) (b7.mono (((o.le.trans q).trans s.le).trans aY) aD) cv) (kh (D8 (ds:=[V3 I J O,V3 R S T]) B9 rfl m4 rfl rfl) (kh (D8 (ds:=[V3 U V W,V3 X Y aa]) C4 rfl m3 rfl rfl) ?_))
  obtain⟨fs,cy,cz⟩:=ob cw
  refine kc c2O (fun _ _ cA aZ=>(a5c F) cA.enter0 (b7.mono (((o.le.trans q).trans s.le).trans aZ) aB) (b7.mono (((o.le.trans q).trans s.le).trans aZ) aC) (b7.mono (((o.le.trans q).trans s.le).trans aZ) ap) (b7.mono (((o.le.trans q).trans s.le).trans aZ) aD) cy) (kv (b1J underlying4 rfl rfl) (kv (u9 rfl) (B4 ?_)))
  rintro ft ⟨cB,cC,fu⟩
  refine l5 (rr ?_)
  cases oi cz
  exact ey results10 ⟨cB,rfl,cC.s⟩
 refine j3 (qr (lv (j6 (ds:=[V3 I J O,V3 R S T]) B9 rfl m4 aN rfl rfl) (lv (j6 (ds:=[V3 U V W,V3 X Y aa]) C4 rfl m3 aN rfl rfl) (mv rfl ?_))))
 obtain⟨fv,cD,cE⟩:=ob bj
 refine lk c6V (b1u F aN.enter0 (aB.mono ((o.le.trans q).trans s.le)) (aC.mono ((o.le.trans q).trans s.le)) (ap.mono ((o.le.trans q).trans s.le)) (aD.mono ((o.le.trans q).trans s.le)) aM cD) ?_
 rintro fw fx ⟨aG,aH,aI,bk,rfl,G,bl⟩
 have cF:=(aN.c0 G).t9
 refine av rfl (O7 (lv (N2 rfl) (nq ?_)))
 obtain⟨cG,cH,ba⟩:=ob cE
 refine l4 (IE cG w K [] bk [] []) ?_ ?_
 ·refine j7 ?_
  obtain⟨fy,cI,bH⟩:=ob cH
  have cJ:=cF.f1.f2.f4.f5.sb (sk (sk (sk (sk (sd (sd (sd (sd (sd sz)))))))))
  refine qw (fun (ay:Int)=>IW w K [] bk [(5,pt ac),(6,pt ad),(7,sv D.2.2.1),(9,sv ak.1),(11,pt ai),(12,V6 x),(13,pt aj),(14,V3 aG aH aI),(15,V6 ay)] [s7 ac [V3 I J O,V3 R S T] 26,s7 ad [V3 U V W,V3 X Y aa] 30,s7 ai [V6 5,sv D.2.2.1,V3 am 1 1,V6 0,V6 0,V3 none 0 0] 35,s7 aj [V6 6,sv [114,97,116,101],V3 none 0 0,V6 x,V6 (z8 (x+(1:Int))),V3 none 0 0] 35] (i7 ay)) cI ⟨bk,rfl,cJ,kr,I5⟩ ?_
  rintro ay _ fz fA cK bI ⟨bb,rfl,aO,y,fB⟩
  refine o4 (sr (mv rfl (fl L3 rfl a1b m1 aO rfl (lv (q9 underlying27 rfl (b7.mono ((((o.le.trans q).trans s.le).trans G.le).trans y) ap)) (lv (u7 rfl rfl) (nq (D5 cK rfl (fun cL bm=>?_) (fun cL bm=>?_))))))))
  ·refine j3 (qs (j7 (sr (fl L3 rfl a1b m1 aO rfl (mv rfl ?_)))))
   obtain⟨aE,cM,cN⟩:=ob bm
   refine li underlying27 E8 (b7.mono ((((o.le.trans q).trans s.le).trans G.le).trans y) ap) cM fun cO cP fC cQ cR=>?_
   obtain⟨cS,cT,cU,cV,cW,cX,rfl,bc,fD,fE⟩:=cQ
   have cY:F1 _ cO cP [V6 aE.Id,V3 cS cT cU,V3 cV cW cX]:=cR
   refine fa P6 rfl (lv (y9 E6 rfl aO (cY 0 _ rfl)) (av rfl (nr (lv (O6 rfl) (O7 (lv (N2 rfl) (nq ?_)))))))
   obtain⟨bd,cZ,da⟩:=ob cN
   refine l4 (IV w K [] bb [(5,pt ac),(6,pt ad),(7,sv D.2.2.1),(9,sv ak.1),(11,pt ai),(12,V6 x),(13,pt aj),(14,V3 aG aH aI),(15,V6 ay),(16,V6 aE.Id),(17,.bool bd)] [s7 ac [V3 I J O,V3 R S T] 26,s7 ad [V3 U V W,V3 X Y aa] 30,s7 ai [V6 5,sv D.2.2.1,V3 am 1 1,V6 0,V6 0,V3 none 0 0] 35,s7 aj [V6 6,sv [114,97,116,101],V3 none 0 0,V6 x,V6 (z8 (x+(1:Int))),V3 none 0 0] 35]) ?_ ?_
   ·refine j7 ?_
    obtain⟨fF,db,dc⟩:=ob cZ
    refine qw (fun (aP:Bool×Int)=>IW w K [] bb [(5,pt ac),(6,pt ad),(7,sv D.2.2.1),(9,sv ak.1),(11,pt ai),(12,V6 x),(13,pt aj),(14,V3 aG aH aI),(15,V6 ay),(16,V6 aE.Id),(17,.bool aP.1),(18,V6 aP.2)] [s7 ac [V3 I J O,V3 R S T] 26,s7 ad [V3 U V W,V3 X Y aa] 30,s7 ai [V6 5,sv D.2.2.1,V3 am 1 1,V6 0,V6 0,V3 none 0 0] 35,s7 aj [V6 6,sv [114,97,116,101],V3 none 0 0,V6 x,V6 (z8 (x+(1:Int))),V3 none 0 0] 35] (i7 aP.2)) db ⟨bb,rfl,aO,kr,I5⟩ ?_
    rintro aP _ fG fH dd de ⟨aK,rfl,bJ,az,fI⟩
    refine o4 (sr (mv rfl (mv rfl (lv (q9 underlying23 rfl (bl.mono (y.trans az))) (lv (u7 rfl rfl) (nq (D5 dd rfl (fun df bn=>?_) (fun df bn=>?_))))))))
    ·refine j3 (qs (j7 ?_))
     obtain⟨dg,dh,di⟩:=ob bn
     refine l4 (IV w K [] aK [(5,pt ac),(6,pt ad),(7,sv D.2.2.1),(9,sv ak.1),(11,pt ai),(12,V6 x),(13,pt aj),(14,V3 aG aH aI),(15,V6 ay),(16,V6 aE.Id),(17,.bool dg),(18,V6 aP.2)] [s7 ac [V3 I J O,V3 R S T] 26,s7 ad [V3 U V W,V3 X Y aa] 30,s7 ai [V6 5,sv D.2.2.1,V3 am 1 1,V6 0,V6 0,V3 none 0 0] 35,s7 aj [V6 6,sv [114,97,116,101],V3 none 0 0,V6 x,V6 (z8 (x+(1:Int))),V3 none 0 0] 35]) ?_ ?_
     ·refine b6e (fun w'=>H0 aK w'∧B0 ac [V3 I J O,V3 R S T] w'∧B0 ad [V3 U V W,V3 X Y aa] w') (fun w'=>True) 24 [] mixed ?_
      have k:=bJ.drew
      refine T8 (i:=0) (listed':=L_ 24 0) (fun _=>True) rfl (by kernel_rfl) (l3 (y8 (l3 (l3 (y8 (l3 (l3 (y8 (l3 (l3 (y8 (l3 (l3 F8))))))))))))) (by kernel_rfl) rfl (by kernel_rfl) (by kernel_rfl) rfl (.inl fun _ _=>trivial) ⟨⟨k.hasK kr,k.hasObj m0,k.hasObj m1⟩,(fun _=>trivial),by decide⟩ wn rfl (fun _ _=>(i5 rfl)) (T8 (i:=1) (listed':=L_ 24 1) (fun _=>True) rfl (by kernel_rfl) (l3 (y8 (l3 (l3 (y8 (l3 (l3 (y8 (l3 (l3 (y8 (l3 (l3 F8))))))))))))) (by kernel_rfl) rfl (by kernel_rfl) (by kernel_rfl) rfl (.inl fun _ _=>trivial) ⟨⟨k.hasK kr,k.hasObj m0,k.hasObj m1⟩,(fun _=>trivial),by decide⟩ wn rfl (fun _ _=>(i5 rfl)) (bt dh (fun H bo=>?_) (fun H bo=>?_)))
      ·refine a3a (i:=2) (listed':=L_ 24 2) rfl (by kernel_rfl) (l3 (y8 (l3 (l3 (y8 (l3 (l3 (y8 (l3 (l3 (y8 (l3 (l3 F8))))))))))))) (by kernel_rfl) rfl (by kernel_rfl) (by kernel_rfl) rfl ⟨⟨k.hasK kr,k.hasObj m0,k.hasObj m1⟩,(fun _=>trivial),by decide⟩ (ug rfl rfl H) rfl (a3a (i:=3) (listed':=L_ 24 3) rfl (by kernel_rfl) (l3 (y8 (l3 (l3 (y8 (l3 (l3 (y8 (l3 (l3 (y8 (l3 (l3 F8))))))))))))) (by kernel_rfl) rfl (by kernel_rfl) (by kernel_rfl) rfl ⟨⟨k.hasK kr,k.hasObj m0,k.hasObj m1⟩,(fun _=>trivial),by decide⟩ (ug rfl rfl H) rfl ?_)
       refine a3a (i:=4) (listed':=L_ 24 4) rfl (by kernel_rfl) (l3 (y8 (l3 (l3 (y8 (l3 (l3 (y8 (l3 (l3 (y8 (l3 (l3 F8))))))))))))) (by kernel_rfl) rfl (by kernel_rfl) (by kernel_rfl) rfl ⟨⟨k.hasK kr,k.hasObj m0,k.hasObj m1⟩,(fun _=>trivial),by decide⟩ (ug rfl rfl H) rfl (a3a (i:=5) (listed':=L_ 24 5) rfl (by kernel_rfl) (l3 (y8 (l3 (l3 (y8 (l3 (l3 (y8 (l3 (l3 (y8 (l3 (l3 F8))))))))))))) (by kernel_rfl) rfl (by kernel_rfl) (by kernel_rfl) rfl ⟨⟨k.hasK kr,k.hasObj m0,k.hasObj m1⟩,(fun _=>trivial),by decide⟩ (ug rfl rfl H) rfl ?_)
       refine a3a (i:=6) (listed':=L_ 24 6) rfl (by kernel_rfl) (l3 (y8 (l3 (l3 (y8 (l3 (l3 (y8 (l3 (l3 (y8 (l3 (l3 F8))))))))))))) (by kernel_rfl) rfl (by kernel_rfl) (by kernel_rfl) rfl ⟨⟨k.hasK kr,k.hasObj m0,k.hasObj m1⟩,(fun _=>trivial),by decide⟩ (ug rfl rfl H) rfl (a94 (i:=7) (by kernel_rfl) rfl (lu H (i8 (b0T (listed':=L_ 24 7) rfl ⟨⟨k.hasK kr,k.hasObj m0,k.hasObj m1⟩,(fun _=>trivial),by decide⟩ (a3a (i:=8) (listed':=L_ 24 8) rfl (by kernel_rfl) (l3 (y8 (l3 (l3 (y8 (l3 (l3 (y8 (l3 (l3 (y8 (l3 (l3 F8))))))))))))) (by kernel_rfl) rfl (by kernel_rfl) (by kernel_rfl) rfl ⟨⟨k.hasK kr,k.hasObj m0,k.hasObj m1⟩,(fun _=>trivial),by decide⟩ (ug rfl rfl H) rfl ?_)))))
       refine a3a (i:=9) (listed':=L_ 24 9) rfl (by kernel_rfl) (l3 (y8 (l3 (l3 (y8 (l3 (l3 (y8 (l3 (l3 (y8 (l3 (l3 F8))))))))))))) (by kernel_rfl) rfl (by kernel_rfl) (by kernel_rfl) rfl ⟨⟨k.hasK kr,k.hasObj m0,k.hasObj m1⟩,(fun _=>trivial),by decide⟩ (uu rfl rfl) rfl (a3a (i:=10) (listed':=L_ 24 10) rfl (by kernel_rfl) (l3 (y8 (l3 (l3 (y8 (l3 (l3 (y8 (l3 (l3 (y8 (l3 (l3 F8))))))))))))) (by kernel_rfl) rfl (by kernel_rfl) (by kernel_rfl) rfl ⟨⟨k.hasK kr,k.hasObj m0,k.hasObj m1⟩,(fun _=>trivial),by decide⟩ (uu rfl rfl) rfl ?_)
       refine a3a (i:=11) (listed':=L_ 24 11) rfl (by kernel_rfl) (l3 (y8 (l3 (l3 (y8 (l3 (l3 (y8 (l3 (l3 (y8 (l3 (l3 F8))))))))))))) (by kernel_rfl) rfl (by kernel_rfl) (by kernel_rfl) rfl ⟨⟨k.hasK kr,k.hasObj m0,k.hasObj m1⟩,(fun _=>trivial),by decide⟩ (uu rfl rfl) rfl (a3a (i:=12) (listed':=L_ 24 12) rfl (by kernel_rfl) (l3 (y8 (l3 (l3 (y8 (l3 (l3 (y8 (l3 (l3 (y8 (l3 (l3 F8))))))))))))) (by kernel_rfl) rfl (by kernel_rfl) (by kernel_rfl) rfl ⟨⟨k.hasK kr,k.hasObj m0,k.hasObj m1⟩,(fun _=>trivial),by decide⟩ (uu rfl rfl) rfl ?_)
       refine a3a (i:=13) (listed':=L_ 24 13) rfl (by kernel_rfl) (l3 (y8 (l3 (l3 (y8 (l3 (l3 (y8 (l3 (l3 (y8 (l3 (l3 F8))))))))))))) (by kernel_rfl) rfl (by kernel_rfl) (by kernel_rfl) rfl ⟨⟨k.hasK kr,k.hasObj m0,k.hasObj m1⟩,(fun _=>trivial),by decide⟩ (uu rfl rfl) rfl (a3a (i:=14) (listed':=L_ 24 14) rfl (by kernel_rfl) (l3 (y8 (l3 (l3 (y8 (l3 (l3 (y8 (l3 (l3 (y8 (l3 (l3 F8))))))))))))) (by kernel_rfl) rfl (by kernel_rfl) (by kernel_rfl) rfl ⟨⟨k.hasK kr,k.hasObj m0,k.hasObj m1⟩,(fun _=>trivial),by decide⟩ (uu rfl rfl) rfl ?_)
       refine a3a (i:=15) (listed':=L_ 24 15) rfl (by kernel_rfl) (l3 (y8 (l3 (l3 (y8 (l3 (l3 (y8 (l3 (l3 (y8 (l3 (l3 F8))))))))))))) (by kernel_rfl) rfl (by kernel_rfl) (by kernel_rfl) rfl ⟨⟨k.hasK kr,k.hasObj m0,k.hasObj m1⟩,(fun _=>trivial),by decide⟩ (uu rfl rfl) rfl (a3a (i:=17) (listed':=#[true,true,true,true,true,true,true,true,true,true,true,true,true,true,true,true,false,true,false,false,false,false,false,false]) rfl (by kernel_rfl) (l3 (y8 (l3 (l3 (y8 (l3 (l3 (y8 (l3 (l3 (y8 (l3 (l3 F8))))))))))))) (by kernel_rfl) rfl (by kernel_rfl) (by kernel_rfl) rfl ⟨⟨k.hasK kr,k.hasObj m0,k.hasObj m1⟩,(fun _=>trivial),by decide⟩ (uu rfl rfl) rfl (a94 (i:=16) (by kernel_rfl) rfl (A8 (uu rfl rfl) rfl (i8 (b0T (listed':=L_ 24 17) rfl ⟨⟨k.hasK kr,k.hasObj m0,k.hasObj m1⟩,(fun _=>trivial),by decide⟩ (a94 (i:=18) (by kernel_rfl) rfl ?_))))))
       refine A8 (uu rfl rfl) rfl (i8 (b0T (listed':=L_ 24 18) rfl ⟨⟨k.hasK kr,k.hasObj m0,k.hasObj m1⟩,(fun _=>trivial),by decide⟩ (a3a (i:=19) (listed':=L_ 24 19) rfl (by kernel_rfl) (l3 (y8 (l3 (l3 (y8 (l3 (l3 (y8 (l3 (l3 (y8 (l3 (l3 F8))))))))))))) (by kernel_rfl) rfl (by kernel_rfl) (by kernel_rfl) rfl ⟨⟨k.hasK kr,k.hasObj m0,k.hasObj m1⟩,(fun _=>trivial),by decide⟩ (uu rfl rfl) rfl (a3a (i:=20) (listed':=L_ 24 20) rfl (by kernel_rfl) (l3 (y8 (l3 (l3 (y8 (l3 (l3 (y8 (l3 (l3 (y8 (l3 (l3 F8))))))))))))) (by kernel_rfl) rfl (by kernel_rfl) (by kernel_rfl) rfl ⟨⟨k.hasK kr,k.hasObj m0,k.hasObj m1⟩,(fun _=>trivial),by decide⟩ (uu rfl rfl) rfl ?_))))
       refine a3a (i:=21) (listed':=L_ 24 21) rfl (by kernel_rfl) (l3 (y8 (l3 (l3 (y8 (l3 (l3 (y8 (l3 (l3 (y8 (l3 (l3 F8))))))))))))) (by kernel_rfl) rfl (by kernel_rfl) (by kernel_rfl) rfl ⟨⟨k.hasK kr,k.hasObj m0,k.hasObj m1⟩,(fun _=>trivial),by decide⟩ (ug rfl rfl H) rfl (T8 (i:=22) (listed':=L_ 24 22) (fun _=>True) rfl (by kernel_rfl) (l3 (y8 (l3 (l3 (y8 (l3 (l3 (y8 (l3 (l3 (y8 (l3 (l3 F8))))))))))))) (by kernel_rfl) rfl (by kernel_rfl) (by kernel_rfl) rfl (.inl fun _ _=>trivial) ⟨⟨k.hasK kr,k.hasObj m0,k.hasObj m1⟩,(fun _=>trivial),by decide⟩ wn rfl (fun _ _=>(J6 rfl H rfl)) ?_)
       refine T8 (i:=23) (listed':=L_ 24 23) (fun _=>True) rfl (by kernel_rfl) (l3 (y8 (l3 (l3 (y8 (l3 (l3 (y8 (l3 (l3 (y8 (l3 (l3 F8))))))))))))) (by kernel_rfl) rfl (by kernel_rfl) (by kernel_rfl) rfl (.inl fun _ _=>trivial) ⟨⟨k.hasK kr,k.hasObj m0,k.hasObj m1⟩,(fun _=>trivial),by decide⟩ wn rfl (fun _ _=>(u9 rfl)) (b07 (by kernel_rfl) ?_)
       cases oi bo
       exact qd ⟨aK,rfl,k,kr⟩
      refine T8 (i:=2) (listed':=L_ 24 2) (fun _=>True) rfl (by kernel_rfl) (l3 (y8 (l3 (l3 (y8 (l3 (l3 (y8 (l3 (l3 (y8 (l3 (l3 F8))))))))))))) (by kernel_rfl) rfl (by kernel_rfl) (by kernel_rfl) rfl (.inl fun _ _=>trivial) ⟨⟨k.hasK kr,k.hasObj m0,k.hasObj m1⟩,(fun _=>trivial),by decide⟩ (wg rfl rfl H) rfl (fun _ _=>(i5 rfl)) (T8 (i:=3) (listed':=L_ 24 3) (fun _=>True) rfl (by kernel_rfl) (l3 (y8 (l3 (l3 (y8 (l3 (l3 (y8 (l3 (l3 (y8 (l3 (l3 F8))))))))))))) (by kernel_rfl) rfl (by kernel_rfl) (by kernel_rfl) rfl (.inl fun _ _=>trivial) ⟨⟨k.hasK kr,k.hasObj m0,k.hasObj m1⟩,(fun _=>trivial),by decide⟩ (wg rfl rfl H) rfl (fun _ _=>(i5 rfl)) ?_)
      refine T8 (i:=4) (listed':=L_ 24 4) (fun _=>True) rfl (by kernel_rfl) (l3 (y8 (l3 (l3 (y8 (l3 (l3 (y8 (l3 (l3 (y8 (l3 (l3 F8))))))))))))) (by kernel_rfl) rfl (by kernel_rfl) (by kernel_rfl) rfl (.inl fun _ _=>trivial) ⟨⟨k.hasK kr,k.hasObj m0,k.hasObj m1⟩,(fun _=>trivial),by decide⟩ (wg rfl rfl H) rfl (fun _ _=>(i5 rfl)) ?_
      obtain⟨bK,dj,dk⟩:=ob bo
      refine b6g (t:=D9) (j:=5) (listed':=L_ 24 5) rfl (by kernel_rfl) (l3 (y8 (l3 (l3 (y8 (l3 (l3 (y8 (l3 (l3 (y8 (l3 (l3 F8))))))))))))) (by kernel_rfl) rfl (by kernel_rfl) (by kernel_rfl) rfl ⟨⟨k.hasK kr,k.hasObj m0,k.hasObj m1⟩,(fun _=>trivial),by decide⟩ (wg rfl rfl H) rfl underlying23 G7 rfl rfl (bl.mono (y.trans az)) dj fun dl dm fJ dn dp=>?_
      obtain⟨rfl,dq⟩:=dn
      have dt:F1 _ dl dm [sv bK]:=dp
      refine T8 (i:=6) (listed':=L_ 24 6) (H0 aK) rfl (by kernel_rfl) (l3 (y8 (l3 (l3 (y8 (l3 (l3 (y8 (l3 (l3 (y8 (l3 (l3 F8))))))))))))) (by kernel_rfl) rfl (by kernel_rfl) (by kernel_rfl) rfl (.inl fun _ h=>h.1) ⟨⟨k.hasK kr,k.hasObj m0,k.hasObj m1⟩,(fun _=>trivial),by decide⟩ (wg rfl rfl H) rfl (fun _ h=>a0Y G7 rfl (dt 0 _ rfl) h) (a94 (i:=7) (by kernel_rfl) rfl ?_)
      obtain⟨fK,du,dv⟩:=ob dk
      refine A3 (wg rfl rfl H) rfl (A2 (vs:=[sv ak.1,sv bK]) c6W rfl) (b2v F k.enter0 bF dq du) ?_
      rintro fL fM ⟨dw,rfl,m⟩
      refine⟨_,rfl,?_⟩
      have l:=(k.c0 m).t4
      refine i8 (b0T (listed':=L_ 24 7) rfl ⟨⟨l.hasK m.le,l.hasObj m0,l.hasObj m1⟩,(fun _=>trivial),by decide⟩ (T8 (i:=8) (listed':=L_ 24 8) (fun _=>True) rfl (by kernel_rfl) (l3 (y8 (l3 (l3 (y8 (l3 (l3 (y8 (l3 (l3 (y8 (l3 (l3 F8))))))))))))) (by kernel_rfl) rfl (by kernel_rfl) (by kernel_rfl) rfl (.inl fun _ _=>trivial) ⟨⟨l.hasK m.le,l.hasObj m0,l.hasObj m1⟩,(fun _=>trivial),by decide⟩ (wg rfl rfl H) rfl (fun _ _=>(i5 rfl)) (bt dv (fun C bp=>?_) (fun C bp=>?_))))
      ·refine T8 (i:=9) (listed':=L_ 24 9) (B0 ac [V3 I J O,V3 R S T]) rfl (by kernel_rfl) (l3 (y8 (l3 (l3 (y8 (l3 (l3 (y8 (l3 (l3 (y8 (l3 (l3 F8))))))))))))) (by kernel_rfl) rfl (by kernel_rfl) (by kernel_rfl) rfl (.inl fun _ h=>h.2.1) ⟨⟨l.hasK m.le,l.hasObj m0,l.hasObj m1⟩,(fun _=>trivial),by decide⟩ (wg rfl rfl C) rfl (fun _ h=>A0 (ds:=[V3 I J O,V3 R S T]) B9 rfl rfl rfl h) (T8 (i:=10) (listed':=L_ 24 10) (B0 ad [V3 U V W,V3 X Y aa]) rfl (by kernel_rfl) (l3 (y8 (l3 (l3 (y8 (l3 (l3 (y8 (l3 (l3 (y8 (l3 (l3 F8))))))))))))) (by kernel_rfl) rfl (by kernel_rfl) (by kernel_rfl) rfl (.inl fun _ h=>h.2.2) ⟨⟨l.hasK m.le,l.hasObj m0,l.hasObj m1⟩,(fun _=>trivial),by decide⟩ (wg rfl rfl C) rfl (fun _ h=>A0 (ds:=[V3 U V W,V3 X Y aa]) C4 rfl rfl rfl h) ?_)
       refine T8 (i:=11) (listed':=L_ 24 11) (fun _=>True) rfl (by kernel_rfl) (l3 (y8 (l3 (l3 (y8 (l3 (l3 (y8 (l3 (l3 (y8 (l3 (l3 F8))))))))))))) (by kernel_rfl) rfl (by kernel_rfl) (by kernel_rfl) rfl (.inl fun _ _=>trivial) ⟨⟨l.hasK m.le,l.hasObj m0,l.hasObj m1⟩,(fun _=>trivial),by decide⟩ (wg rfl rfl C) rfl (fun _ _=>(i5 rfl)) (T8 (i:=12) (listed':=L_ 24 12) (fun _=>True) rfl (by kernel_rfl) (l3 (y8 (l3 (l3 (y8 (l3 (l3 (y8 (l3 (l3 (y8 (l3 (l3 F8))))))))))))) (by kernel_rfl) rfl (by kernel_rfl) (by kernel_rfl) rfl (.inl fun _ _=>trivial) ⟨⟨l.hasK m.le,l.hasObj m0,l.hasObj m1⟩,(fun _=>trivial),by decide⟩ (wg rfl rfl C) rfl (fun _ _=>(i5 rfl)) ?_)
       refine T8 (i:=13) (listed':=L_ 24 13) (fun _=>True) rfl (by kernel_rfl) (l3 (y8 (l3 (l3 (y8 (l3 (l3 (y8 (l3 (l3 (y8 (l3 (l3 F8))))))))))))) (by kernel_rfl) rfl (by kernel_rfl) (by kernel_rfl) rfl (.inl fun _ _=>trivial) ⟨⟨l.hasK m.le,l.hasObj m0,l.hasObj m1⟩,(fun _=>trivial),by decide⟩ (wg rfl rfl C) rfl (fun _ _=>(i5 rfl)) ?_
       obtain⟨bL,dx,dy⟩:=ob bp
       refine b6g (t:=D9) (j:=14) (listed':=L_ 24 14) rfl (by kernel_rfl) (l3 (y8 (l3 (l3 (y8 (l3 (l3 (y8 (l3 (l3 (y8 (l3 (l3 F8))))))))))))) (by kernel_rfl) rfl (by kernel_rfl) (by kernel_rfl) rfl ⟨⟨l.hasK m.le,l.hasObj m0,l.hasObj m1⟩,(fun _=>trivial),by decide⟩ (wg rfl rfl C) rfl underlying23 G7 rfl rfl (bl.mono (y.trans az)) dx fun dz dA fN dB dC=>?_
       obtain⟨rfl,dD⟩:=dB
       have dE:F1 _ dz dA [sv bL]:=dC
       refine T8 (i:=15) (listed':=L_ 24 15) (H0 aK) rfl (by kernel_rfl) (l3 (y8 (l3 (l3 (y8 (l3 (l3 (y8 (l3 (l3 (y8 (l3 (l3 F8))))))))))))) (by kernel_rfl) rfl (by kernel_rfl) (by kernel_rfl) rfl (.inl fun _ h=>h.1) ⟨⟨l.hasK m.le,l.hasObj m0,l.hasObj m1⟩,(fun _=>trivial),by decide⟩ (wg rfl rfl C) rfl (fun _ h=>a0Y G7 rfl (dE 0 _ rfl) h) (T8 (i:=17) (listed':=#[true,true,true,true,true,true,true,true,true,true,true,true,true,true,true,true,false,true,false,false,false,false,false,false]) (fun _=>True) rfl (by kernel_rfl) (l3 (y8 (l3 (l3 (y8 (l3 (l3 (y8 (l3 (l3 (y8 (l3 (l3 F8))))))))))))) (by kernel_rfl) rfl (by kernel_rfl) (by kernel_rfl) rfl (.inl fun _ _=>trivial) ⟨⟨l.hasK m.le,l.hasObj m0,l.hasObj m1⟩,(fun _=>trivial),by decide⟩ (wg rfl rfl C) rfl (fun _ _=>(i5 rfl)) (a94 (i:=16) (by kernel_rfl) rfl ?_))
       obtain⟨fO,dF,dG⟩:=ob dy
       refine A3 (wg rfl rfl C) rfl (A2 (vs:=[.agg #[V3 I J O,V3 R S T],.agg #[V3 U V W,V3 X Y aa],sv D.2.2.1,sv bL]) c59 rfl) (a60 F l.enter0 (b7.mono ((((((o.le.trans q).trans s.le).trans G.le).trans y).trans az).trans m.le) aB) (b7.mono ((((((o.le.trans q).trans s.le).trans G.le).trans y).trans az).trans m.le) aC) (b7.mono ((((((o.le.trans q).trans s.le).trans G.le).trans y).trans az).trans m.le) ap) (b7.mono ((((((o.le.trans q).trans s.le).trans G.le).trans y).trans az).trans m.le) aD) aM dD dF) ?_
       rintro fP fQ ⟨dH,dI,dJ,fR,rfl,aA,dK⟩
       refine⟨_,rfl,?_⟩
       have aQ:=(l.c0 aA).t5
       refine i8 (b0T (listed':=L_ 24 17) rfl ⟨⟨aQ.hasK (m.le.trans aA.le),aQ.hasObj m1,aQ.hasObj m2⟩,(fun _=>trivial),by decide⟩ (a94 (i:=18) (by kernel_rfl) rfl ?_))
       obtain⟨fS,dL,dM⟩:=ob dG
       refine A3 (wg rfl rfl C) rfl (A2 (vs:=[V3 dH dI dJ,V6 aE.Id]) c6X rfl) (b5X F aQ.enter0 dK bc dL) ?_
       rintro fT fU ⟨fV,fW,fX,dN,rfl,aF,dO⟩
       refine⟨_,rfl,?_⟩
       have ab:=(aQ.c0 aF).t5
       refine i8 (b0T (listed':=L_ 24 18) rfl ⟨⟨ab.hasK ((m.le.trans aA.le).trans aF.le),ab.hasObj m1,ab.hasObj m2⟩,(fun _=>trivial),by decide⟩ (T8 (i:=19) (listed':=L_ 24 19) (fun _=>True) rfl (by kernel_rfl) (l3 (y8 (l3 (l3 (y8 (l3 (l3 (y8 (l3 (l3 (y8 (l3 (l3 F8))))))))))))) (by kernel_rfl) rfl (by kernel_rfl) (by kernel_rfl) rfl (.inl fun _ _=>trivial) ⟨⟨ab.hasK ((m.le.trans aA.le).trans aF.le),ab.hasObj m1,ab.hasObj m2⟩,(fun _=>trivial),by decide⟩ (wg rfl rfl C) rfl (fun _ _=>(q9 underlying46 rfl dO)) ?_))
       refine T8 (i:=20) (listed':=L_ 24 20) (fun _=>True) rfl (by kernel_rfl) (l3 (y8 (l3 (l3 (y8 (l3 (l3 (y8 (l3 (l3 (y8 (l3 (l3 F8))))))))))))) (by kernel_rfl) rfl (by kernel_rfl) (by kernel_rfl) rfl (.inl fun _ _=>trivial) ⟨⟨ab.hasK ((m.le.trans aA.le).trans aF.le),ab.hasObj m1,ab.hasObj m2⟩,(fun _=>trivial),by decide⟩ (wg rfl rfl C) rfl (fun _ _=>(E7 rfl rfl)) (T8 (i:=21) (listed':=L_ 24 21) (fun _=>True) rfl (by kernel_rfl) (l3 (y8 (l3 (l3 (y8 (l3 (l3 (y8 (l3 (l3 (y8 (l3 (l3 F8))))))))))))) (by kernel_rfl) rfl (by kernel_rfl) (by kernel_rfl) rfl (.inl fun _ _=>trivial) ⟨⟨ab.hasK ((m.le.trans aA.le).trans aF.le),ab.hasObj m1,ab.hasObj m2⟩,(fun _=>trivial),by decide⟩ (wg rfl rfl H) rfl (fun _ _=>(n9 rfl C rfl)) ?_)
       refine T8 (i:=22) (listed':=L_ 24 22) (fun _=>True) rfl (by kernel_rfl) (l3 (y8 (l3 (l3 (y8 (l3 (l3 (y8 (l3 (l3 (y8 (l3 (l3 F8))))))))))))) (by kernel_rfl) rfl (by kernel_rfl) (by kernel_rfl) rfl (.inl fun _ _=>trivial) ⟨⟨ab.hasK ((m.le.trans aA.le).trans aF.le),ab.hasObj m1,ab.hasObj m2⟩,(fun _=>trivial),by decide⟩ wn rfl (fun _ _=>(l9 rfl H rfl)) (T8 (i:=23) (listed':=L_ 24 23) (fun _=>True) rfl (by kernel_rfl) (l3 (y8 (l3 (l3 (y8 (l3 (l3 (y8 (l3 (l3 (y8 (l3 (l3 F8))))))))))))) (by kernel_rfl) rfl (by kernel_rfl) (by kernel_rfl) rfl (.inl fun _ _=>trivial) ⟨⟨ab.hasK ((m.le.trans aA.le).trans aF.le),ab.hasObj m1,ab.hasObj m2⟩,(fun _=>trivial),by decide⟩ wn rfl (fun _ _=>(u9 rfl)) (b07 (by kernel_rfl) ?_))
       cases oi dM
       exact qd ⟨dN,rfl,ab.s,((m.le.trans aA.le).trans aF.le)⟩
      refine a3a (i:=9) (listed':=L_ 24 9) rfl (by kernel_rfl) (l3 (y8 (l3 (l3 (y8 (l3 (l3 (y8 (l3 (l3 (y8 (l3 (l3 F8))))))))))))) (by kernel_rfl) rfl (by kernel_rfl) (by kernel_rfl) rfl ⟨⟨l.hasK m.le,l.hasObj m0,l.hasObj m1⟩,(fun _=>trivial),by decide⟩ (ug rfl rfl C) rfl (a3a (i:=10) (listed':=L_ 24 10) rfl (by kernel_rfl) (l3 (y8 (l3 (l3 (y8 (l3 (l3 (y8 (l3 (l3 (y8 (l3 (l3 F8))))))))))))) (by kernel_rfl) rfl (by kernel_rfl) (by kernel_rfl) rfl ⟨⟨l.hasK m.le,l.hasObj m0,l.hasObj m1⟩,(fun _=>trivial),by decide⟩ (ug rfl rfl C) rfl ?_)
      refine a3a (i:=11) (listed':=L_ 24 11) rfl (by kernel_rfl) (l3 (y8 (l3 (l3 (y8 (l3 (l3 (y8 (l3 (l3 (y8 (l3 (l3 F8))))))))))))) (by kernel_rfl) rfl (by kernel_rfl) (by kernel_rfl) rfl ⟨⟨l.hasK m.le,l.hasObj m0,l.hasObj m1⟩,(fun _=>trivial),by decide⟩ (ug rfl rfl C) rfl (a3a (i:=12) (listed':=L_ 24 12) rfl (by kernel_rfl) (l3 (y8 (l3 (l3 (y8 (l3 (l3 (y8 (l3 (l3 (y8 (l3 (l3 F8))))))))))))) (by kernel_rfl) rfl (by kernel_rfl) (by kernel_rfl) rfl ⟨⟨l.hasK m.le,l.hasObj m0,l.hasObj m1⟩,(fun _=>trivial),by decide⟩ (ug rfl rfl C) rfl ?_)
      refine a3a (i:=13) (listed':=L_ 24 13) rfl (by kernel_rfl) (l3 (y8 (l3 (l3 (y8 (l3 (l3 (y8 (l3 (l3 (y8 (l3 (l3 F8))))))))))))) (by kernel_rfl) rfl (by kernel_rfl) (by kernel_rfl) rfl ⟨⟨l.hasK m.le,l.hasObj m0,l.hasObj m1⟩,(fun _=>trivial),by decide⟩ (ug rfl rfl C) rfl (a3a (i:=14) (listed':=L_ 24 14) rfl (by kernel_rfl) (l3 (y8 (l3 (l3 (y8 (l3 (l3 (y8 (l3 (l3 (y8 (l3 (l3 F8))))))))))))) (by kernel_rfl) rfl (by kernel_rfl) (by kernel_rfl) rfl ⟨⟨l.hasK m.le,l.hasObj m0,l.hasObj m1⟩,(fun _=>trivial),by decide⟩ (ug rfl rfl C) rfl ?_)
      refine a3a (i:=15) (listed':=L_ 24 15) rfl (by kernel_rfl) (l3 (y8 (l3 (l3 (y8 (l3 (l3 (y8 (l3 (l3 (y8 (l3 (l3 F8))))))))))))) (by kernel_rfl) rfl (by kernel_rfl) (by kernel_rfl) rfl ⟨⟨l.hasK m.le,l.hasObj m0,l.hasObj m1⟩,(fun _=>trivial),by decide⟩ (ug rfl rfl C) rfl (a3a (i:=17) (listed':=#[true,true,true,true,true,true,true,true,true,true,true,true,true,true,true,true,false,true,false,false,false,false,false,false]) rfl (by kernel_rfl) (l3 (y8 (l3 (l3 (y8 (l3 (l3 (y8 (l3 (l3 (y8 (l3 (l3 F8))))))))))))) (by kernel_rfl) rfl (by kernel_rfl) (by kernel_rfl) rfl ⟨⟨l.hasK m.le,l.hasObj m0,l.hasObj m1⟩,(fun _=>trivial),by decide⟩ (ug rfl rfl C) rfl (a94 (i:=16) (by kernel_rfl) rfl (lu C (i8 (b0T (listed':=L_ 24 17) rfl ⟨⟨l.hasK m.le,l.hasObj m0,l.hasObj m1⟩,(fun _=>trivial),by decide⟩ ?_)))))
      refine a94 (i:=18) (by kernel_rfl) rfl (lu C (i8 (b0T (listed':=L_ 24 18) rfl ⟨⟨l.hasK m.le,l.hasObj m0,l.hasObj m1⟩,(fun _=>trivial),by decide⟩ (a3a (i:=19) (listed':=L_ 24 19) rfl (by kernel_rfl) (l3 (y8 (l3 (l3 (y8 (l3 (l3 (y8 (l3 (l3 (y8 (l3 (l3 F8))))))))))))) (by kernel_rfl) rfl (by kernel_rfl) (by kernel_rfl) rfl ⟨⟨l.hasK m.le,l.hasObj m0,l.hasObj m1⟩,(fun _=>trivial),by decide⟩ (ug rfl rfl C) rfl (a3a (i:=20) (listed':=L_ 24 20) rfl (by kernel_rfl) (l3 (y8 (l3 (l3 (y8 (l3 (l3 (y8 (l3 (l3 (y8 (l3 (l3 F8))))))))))))) (by kernel_rfl) rfl (by kernel_rfl) (by kernel_rfl) rfl ⟨⟨l.hasK m.le,l.hasObj m0,l.hasObj m1⟩,(fun _=>trivial),by decide⟩ (ug rfl rfl C) rfl ?_)))))
      refine T8 (i:=21) (listed':=L_ 24 21) (fun _=>True) rfl (by kernel_rfl) (l3 (y8 (l3 (l3 (y8 (l3 (l3 (y8 (l3 (l3 (y8 (l3 (l3 F8))))))))))))) (by kernel_rfl) rfl (by kernel_rfl) (by kernel_rfl) rfl (.inl fun _ _=>trivial) ⟨⟨l.hasK m.le,l.hasObj m0,l.hasObj m1⟩,(fun _=>trivial),by decide⟩ (wg rfl rfl H) rfl (fun _ _=>(L8 rfl C rfl)) (T8 (i:=22) (listed':=L_ 24 22) (fun _=>True) rfl (by kernel_rfl) (l3 (y8 (l3 (l3 (y8 (l3 (l3 (y8 (l3 (l3 (y8 (l3 (l3 F8))))))))))))) (by kernel_rfl) rfl (by kernel_rfl) (by kernel_rfl) rfl (.inl fun _ _=>trivial) ⟨⟨l.hasK m.le,l.hasObj m0,l.hasObj m1⟩,(fun _=>trivial),by decide⟩ wn rfl (fun _ _=>(l9 rfl H rfl)) ?_)
      refine T8 (i:=23) (listed':=L_ 24 23) (fun _=>True) rfl (by kernel_rfl) (l3 (y8 (l3 (l3 (y8 (l3 (l3 (y8 (l3 (l3 (y8 (l3 (l3 F8))))))))))))) (by kernel_rfl) rfl (by kernel_rfl) (by kernel_rfl) rfl (.inl fun _ _=>trivial) ⟨⟨l.hasK m.le,l.hasObj m0,l.hasObj m1⟩,(fun _=>trivial),by decide⟩ wn rfl (fun _ _=>(u9 rfl)) (b07 (by kernel_rfl) ?_)
      cases oi bp
      exact qd ⟨dw,rfl,l,m.le⟩
     rintro _ fY ⟨dP,rfl,dQ,dR⟩
     refine x8 (l5 (j5 (mv rfl (lv (y7 rfl rfl) (av rfl (i8 ?_))))))
     cases oi di
     exact qd ⟨_,rfl,dP,rfl,dQ,(az.trans dR),(u0 _)⟩
    refine y4 (g8 (g8 ?_))
    cases oi bn
    cases de _ rfl
    refine l6 ?_
    cases oi dc
    exact qd ⟨aK,rfl,bJ,az⟩
   rintro _ fZ ⟨ga,rfl,be,ae⟩
   refine qr (fl L3 rfl a1b m1 be rfl (mv rfl ?_))
   obtain⟨dS,dT,dU⟩:=ob da
   refine li underlying27 E8 (b7.mono (((((o.le.trans q).trans s.le).trans G.le).trans y).trans ae) ap) dT fun dV dW gb dX dY=>?_
   obtain⟨dZ,ea,eb,ec,ed,ee,rfl,ef,eg,eh⟩:=dX
   have ei:F1 _ dV dW [V6 dS.Id,V3 dZ ea eb,V3 ec ed ee]:=dY
   refine lv (F3 E8 rfl be ei rfl) ?_
   obtain⟨gc,ej,ek⟩:=ob dU
   refine lk c6Y (a8r F be.enter0 ef eg eh (by decide :([114,97,116,101]:r4).length≤maxLen) ej) ?_
   rintro gd ge ⟨bq,rfl,af,gg⟩
   have bM:=(be.c0 af).t4
   refine av rfl (nr (lv (N2 rfl) (ns (o4 ?_))))
   obtain⟨el,em,en⟩:=ob ek
   refine l4 (IV w K [] bq [(5,pt ac),(6,pt ad),(7,sv D.2.2.1),(9,sv ak.1),(11,pt ai),(12,V6 x),(13,pt aj),(14,V3 aG aH aI),(15,V6 ay),(16,V6 aE.Id),(17,.bool bd),(20,V6 0),(124,.bool el)] [s7 ac [V3 I J O,V3 R S T] 26,s7 ad [V3 U V W,V3 X Y aa] 30,s7 ai [V6 5,sv D.2.2.1,V3 am 1 1,V6 0,V6 0,V3 none 0 0] 35,s7 aj [V6 6,sv [114,97,116,101],V3 none 0 0,V6 x,V6 (z8 (x+(1:Int))),V3 none 0 0] 35]) ?_ ?_
   ·refine j5 (mv rfl (mv rfl (lv (a3B rfl rfl) (mv rfl (bt em (fun aq br=>?_) (fun aq br=>?_))))))
    ·refine lg aq (i5 rfl) (lg aq (i5 rfl) (lg aq (y7 rfl rfl) (lg aq (V2 rfl rfl) (lv (n9 rfl aq rfl) (i8 ?_)))))
     cases oi br
     exact qd ⟨bq,rfl,bM,kr⟩
    refine lu aq (lu aq (lu aq (lu aq (lv (L8 rfl aq rfl) (i8 ?_)))))
    cases oi br
    exact qd ⟨bq,rfl,bM,kr⟩
   rintro _ gj ⟨bs,rfl,bN,ag⟩
   refine l5 ?_
   obtain⟨bO,eo,ep⟩:=ob en
   refine l4 (IW w K [] bs [(5,pt ac),(6,pt ad),(7,sv D.2.2.1),(9,sv ak.1),(11,pt ai),(12,V6 x),(13,pt aj),(14,V3 aG aH aI),(15,V6 ay),(16,V6 aE.Id),(17,.bool bd),(20,V6 bO)] [s7 ac [V3 I J O,V3 R S T] 26,s7 ad [V3 U V W,V3 X Y aa] 30,s7 ai [V6 5,sv D.2.2.1,V3 am 1 1,V6 0,V6 0,V3 none 0 0] 35,s7 aj [V6 6,sv [114,97,116,101],V3 none 0 0,V6 x,V6 (z8 (x+(1:Int))),V3 none 0 0] 35] (i7 bO)) ?_ ?_
   ·refine D5 eo rfl (fun eq bu=>?_) (fun eq bu=>?_)
    ·refine j5 (lv (u9 (v:=V6 100) rfl) (i8 ?_))
     cases oi bu
     exact qd ⟨bs,rfl,bN,kr,(by decide :i7 100)⟩
    refine j3 ?_
    cases oi bu
    exact qd ⟨bs,rfl,bN,kr,I5⟩
   rintro _ gk ⟨gl,rfl,aL,ah,gm⟩
   refine qr (lv (j6 (ds:=[V3 I J O,V3 R S T]) B9 rfl m0 aL rfl rfl) (lv (j6 (ds:=[V3 U V W,V3 X Y aa]) C4 rfl m1 aL rfl rfl) (lv (j6 (ds:=[V6 5,sv D.2.2.1,V3 am 1 1,V6 0,V6 0,V3 none 0 0]) B1 rfl m2 aL rfl rfl) (mv rfl ?_))))
   obtain⟨go,es,et⟩:=ob ep
   refine lk b6x ((P4 F (q2:=(q7.mk (5:Int) D.2.2.1 ([ak.1]:List r4) (0:Int) (0:Int) ([]:List q7)))) aL.enter0 (b7.mono ((((((((o.le.trans q).trans s.le).trans G.le).trans y).trans ae).trans af.le).trans ag).trans ah) aB) (b7.mono ((((((((o.le.trans q).trans s.le).trans G.le).trans y).trans ae).trans af.le).trans ag).trans ah) aC) (b7.mono ((((((((o.le.trans q).trans s.le).trans G.le).trans y).trans ae).trans af.le).trans ag).trans ah) ap) (b7.mono ((((((((o.le.trans q).trans s.le).trans G.le).trans y).trans ae).trans af.le).trans ag).trans ah) aD) (by decide :i7 5) aM (b7.mono ((((((s.le.trans G.le).trans y).trans ae).trans af.le).trans ag).trans ah) bi) I5 I5 (b7.nil _ _) bc (hG10.keep aL) hD es) ?_
   rintro gp gq ⟨eu,rfl,ao,gr⟩
   have aR:=(aL.c0 ao).t4
   refine av rfl (ns ?_)
   obtain⟨ev,ew,ex⟩:=ob et
   refine l4 (IV w K [] eu [(5,pt ac),(6,pt ad),(7,sv D.2.2.1),(9,sv ak.1),(11,pt ai),(12,V6 x),(13,pt aj),(14,V3 aG aH aI),(15,V6 ay),(155,.bool ev)] [s7 ac [V3 I J O,V3 R S T] 26,s7 ad [V3 U V W,V3 X Y aa] 30,s7 ai [V6 5,sv D.2.2.1,V3 am 1 1,V6 0,V6 0,V3 none 0 0] 35,s7 aj [V6 6,sv [114,97,116,101],V3 none 0 0,V6 x,V6 (z8 (x+(1:Int))),V3 none 0 0] 35]) ?_ ?_
   ·refine j5 (mv rfl (lv (j6 (ds:=[V3 I J O,V3 R S T]) B9 rfl m0 aR rfl rfl) (lv (j6 (ds:=[V3 U V W,V3 X Y aa]) C4 rfl m1 aR rfl rfl) (lv (j6 (ds:=[V6 5,sv D.2.2.1,V3 am 1 1,V6 0,V6 0,V3 none 0 0]) B1 rfl m2 aR rfl rfl) (mv rfl ?_)))))
    obtain⟨gv,eA,eB⟩:=ob ew
    refine lk c1E ((a0K F (q2:=(q7.mk (5:Int) D.2.2.1 ([ak.1]:List r4) (0:Int) (0:Int) ([]:List q7)))) aR.enter0 (b7.mono (((((((((o.le.trans q).trans s.le).trans G.le).trans y).trans ae).trans af.le).trans ag).trans ah).trans ao.le) aB) (b7.mono (((((((((o.le.trans q).trans s.le).trans G.le).trans y).trans ae).trans af.le).trans ag).trans ah).trans ao.le) aC) (b7.mono (((((((((o.le.trans q).trans s.le).trans G.le).trans y).trans ae).trans af.le).trans ag).trans ah).trans ao.le) ap) (b7.mono (((((((((o.le.trans q).trans s.le).trans G.le).trans y).trans ae).trans af.le).trans ag).trans ah).trans ao.le) aD) (by decide :i7 5) aM (b7.mono (((((((s.le.trans G.le).trans y).trans ae).trans af.le).trans ag).trans ah).trans ao.le) bi) I5 I5 (b7.nil _ _) bc eA) ?_
    rintro gw gx ⟨eC,rfl,aw,gy⟩
    have aJ:=(aR.c0 aw).t4
    refine lv (R2 rfl rfl) (mv rfl (bt eB (fun ar bv=>?_) (fun ar bv=>?_)))
    ·iterate 7 refine lu ar ?_
     refine lv (J6 rfl ar rfl) (mv rfl (lu rfl (lu rfl (lu rfl (A8 (uu rfl rfl) rfl (A8 (uu rfl rfl) rfl (A8 (uu rfl rfl) rfl (A8 (uu rfl rfl) rfl (lu rfl ?_)))))))))
     refine lv (J6 rfl rfl rfl) (i8 ?_)
     cases oi bv
     exact qd ⟨eC,rfl,aJ,aw.le⟩
    refine lg ar (j6 (ds:=[V3 I J O,V3 R S T]) B9 rfl m0 aJ rfl rfl) (lg ar (j6 (ds:=[V3 U V W,V3 X Y aa]) C4 rfl m1 aJ rfl rfl) (lg ar (j6 (ds:=[V6 6,sv [114,97,116,101],V3 none 0 0,V6 x,V6 (z8 (x+(1:Int))),V3 none 0 0]) B1 rfl m3 aJ rfl rfl) (lg ar (i5 rfl) ?_)))
    obtain⟨gz,eD,eE⟩:=ob bv
    refine A3 (wg rfl rfl ar) rfl (A2 (vs:=[.agg #[V3 I J O,V3 R S T],.agg #[V3 U V W,V3 X Y aa],.agg #[V6 6,sv [114,97,116,101],V3 none 0 0,V6 x,V6 (z8 (x+(1:Int))),V3 none 0 0],V6 aE.Id]) b6x rfl) ((P4 F (q2:=(q7.mk (6:Int) ([114,97,116,101]:r4) ([]:List r4) x (z8 (x+(1:Int))) ([]:List q7)))) aJ.enter0 (b7.mono ((((((((((o.le.trans q).trans s.le).trans G.le).trans y).trans ae).trans af.le).trans ag).trans ah).trans ao.le).trans aw.le) aB) (b7.mono ((((((((((o.le.trans q).trans s.le).trans G.le).trans y).trans ae).trans af.le).trans ag).trans ah).trans ao.le).trans aw.le) aC) (b7.mono ((((((((((o.le.trans q).trans s.le).trans G.le).trans y).trans ae).trans af.le).trans ag).trans ah).trans ao.le).trans aw.le) ap) (b7.mono ((((((((((o.le.trans q).trans s.le).trans G.le).trans y).trans ae).trans af.le).trans ag).trans ah).trans ao.le).trans aw.le) aD) (by decide :i7 6) (by decide :([114,97,116,101]:r4).length≤maxLen) (b7.nil _ _) (b29 (a0Z (b7.max (b7.mono (((aV.trans aW.le).trans o.le).trans q) aU))) bG) (u0 _) (b7.nil _ _) bc (hG10.keep aJ) hD eD) ?_
    rintro gA gB ⟨eF,rfl,aS,gC⟩
    refine⟨_,rfl,?_⟩
    have aT:=(aJ.c0 aS).t4
    refine lg ar (i5 rfl) (lg ar (R2 rfl rfl) (lv (l9 rfl ar rfl) (mv rfl (bt eE (fun an bx=>?_) (fun an bx=>?_)))))
    ·refine lu an (lu an (lu an (A8 (uu rfl rfl) rfl (A8 (uu rfl rfl) rfl (A8 (uu rfl rfl) rfl (A8 (uu rfl rfl) rfl (lu an (lv (J6 rfl an rfl) (i8 ?_)))))))))
     cases oi bx
     exact qd ⟨eF,rfl,aT,(aw.le.trans aS.le)⟩
    refine lg an (j6 (ds:=[V6 5,sv D.2.2.1,V3 am 1 1,V6 0,V6 0,V3 none 0 0]) B1 rfl m2 aT rfl rfl) ?_
    obtain⟨gD,eG,eH⟩:=ob bx
    refine A3 (wg rfl rfl an) rfl (A2 (vs:=[.agg #[V6 5,sv D.2.2.1,V3 am 1 1,V6 0,V6 0,V3 none 0 0]]) b9U rfl) ((a0J F (q0:=(q7.mk (5:Int) D.2.2.1 ([ak.1]:List r4) (0:Int) (0:Int) ([]:List q7)))) aT.enter0 (by decide :i7 5) aM (b7.mono (((((((((s.le.trans G.le).trans y).trans ae).trans af.le).trans ag).trans ah).trans ao.le).trans aw.le).trans aS.le) bi) I5 I5 (b7.nil _ _) (hG10.keep aT) eG) ?_
    rintro gE gF ⟨eI,rfl,bz⟩
    refine⟨_,rfl,?_⟩
    have bA:=(aT.c0 bz).t4
    refine lg an (i5 rfl) (bt eH (fun au bB=>?_) (fun au bB=>?_))
    ·refine lg au (i5 rfl) (lg au (i5 rfl) ?_)
     obtain⟨gG,eJ,eK⟩:=ob bB
     refine A3 (wg rfl rfl au) rfl (A2 (vs:=[.bool bd]) c9s rfl) (c7J F bA.enter0 eJ) ?_
     rintro gH gI ⟨eL,rfl,bP,gJ⟩
     refine⟨_,rfl,?_⟩
     have eM:=(bA.c0 bP).t4
     refine lg au (R2 rfl rfl) (lg an (n9 rfl au rfl) (lv (l9 rfl an rfl) (i8 ?_)))
     cases oi eK
     exact qd ⟨eL,rfl,eM,(((aw.le.trans aS.le).trans bz.le).trans bP.le)⟩
    refine lu au (lu au (lu au (lu au (lg an (L8 rfl au rfl) (lv (l9 rfl an rfl) (i8 ?_))))))
    cases oi bB
    exact qd ⟨eI,rfl,bA,((aw.le.trans aS.le).trans bz.le)⟩
   rintro _ gK ⟨bQ,rfl,bR,eN⟩
   refine l5 (D5 ex rfl (fun eO bC=>?_) (fun eO bC=>?_))
   ·refine sr (lv (O6 rfl) (nq (j9 (i9 (c9 (c9 ?_))))))
    cases oi bC
    cases bI _ rfl
    refine i9 (c9 ?_)
    cases oi bH
    refine c9 ?_
    cases oi ba
    exact ey results10 ⟨bQ,rfl,bR.s⟩
   refine j3 (x8 (l5 (j5 (mv rfl (lv (y7 rfl rfl) (av rfl (i8 ?_)))))))
   cases oi bC
   exact qd ⟨_,rfl,bQ,rfl,bR,((((((y.trans ae).trans af.le).trans ag).trans ah).trans ao.le).trans eN),(u0 _)⟩
  refine y4 (g8 (g8 ?_))
  cases oi bm
  cases bI _ rfl
  refine l6 ?_
  cases oi bH
  exact L6 ⟨_,bb,rfl,rfl,aO.s,y⟩ trivial
 rintro _ gL ⟨gM,eP,rfl,rfl,eQ,gN⟩
 have ba:=E9 ba
 refine qr (lv (r_t rfl) (nq (j9 ?_)))
 cases oi ba
 exact ey results10 ⟨eP,rfl,eQ⟩
end Go.Proofs.YtnloenhmkdpgeaaGreatDoor
