/-
 Walks of the functions. Printed by gen.py.
-/
import Derived.Test.YtepcfgnicnibnaaGreatDoorModelLPageNext
import Derived.Test.YtepcfgnicnibnaaGreatDoorWalkA0
import Derived.Test.YtepcfgnicnibnaaGreatDoorWalkA4
import Derived.Test.YtepcfgnicnibnaaGreatDoorWalkFT
set_option linter.unusedVariables false
set_option linter.unusedSectionVars false
set_option maxRecDepth 100000
namespace Go.Proofs.YtepcfgnicnibnaaGreatDoor
set_option maxHeartbeats 4000000
open Go Go.Fk Go.RowKit Tryz
variable (F:Nat){w:World}{K:F0}{Z:List Nat}{g1 g2 g3:Nat}{A B C D G H I J O R S T:Option Addr}{a b c d f i k l m n o p q s v x y aa ab ac ad ae af ag:Nat}
variable [dr:Dr]

theorem b0J {q0:u5}{q1:A7}{q2:r5}{q3:Int}{q4:B0}{r:(List B0)}(hS:SH w K [] w K [])(ax:b7 D8 K A a b q0.Stops)(ay:b7 L0 K B c d q0.Syns)(az:b7 F8 K C f i q1.Docs)(aA:b7 B8 K D k l q1.Entries)(aB:i7 q2.Kind)(aC:q2.Field.length≤maxLen)(aD:b7 D8 K G m n q2.Words)(aE:i7 q2.From)(aF:i7 q2.To)(aG:b7 F3 K H o p q2.Kids)(ak:i7 q3)(aH:i7 q4.Doc)(aI:i7 q4.Points)(hG33:a5U C5 0 q L3 w)(hD: ¬dr.D)(hm:a0e F q0 q1 q2 q3 q4=some r):
  Calls prog 15 #[.agg #[V3 A a b,V3 B c d],.agg #[V3 C f i,V3 D k l],.agg #[V6 q2.Kind,sv q2.Field,V3 G m n,V6 q2.From,V6 q2.To,V3 H o p],V6 q3,.agg #[V6 q4.Doc,V6 q4.Points]] w fun e w'=>∃a_1 n_2 c_3 K',e= .returned (V3 a_1 n_2 c_3)∧SH w K [] w' K' [tail (V3 a_1 n_2 c_3) 45 2]∧b7 E8 K' a_1 n_2 c_3 r:=by
 rw [a0e] at hm
 refine ci func15 rfl ntmps15 (sr (bx rfl hS fun aJ cf aK=>?_))
 have aL:SH _ _ _ _ _ [u9 aJ [V3 A a b,V3 B c d] 26]:=aK
 refine bx rfl aL fun aM cg aN=>?_
 have aO:SH _ _ _ _ _ [u9 aM [V3 C f i,V3 D k l] 30,_]:=aN
 refine bx rfl aO fun aP ch aQ=>?_
 have aR:SH _ _ _ _ _ [u9 aP [V6 q2.Kind,sv q2.Field,V3 G m n,V6 q2.From,V6 q2.To,V3 H o p] 33,_,_]:=aQ
 refine bx rfl aR fun ae cj aS=>?_
 have am:SH _ _ _ _ _ [u9 ae [V6 q4.Doc,V6 q4.Points] 45,_,_,_]:=aS
 refine lv (r_n rfl) (P6 (mv rfl ?_))
 obtain⟨ck,aT,aU⟩:=ob hm
 refine lk a3H (C3 F am.enter0 ak (by decide :i7 1) (by decide :i7 16) aT) ?_
 rintro cl cm ⟨cn,rfl,x⟩
 have an:=(am.c0 x).t4
 refine lv (A4 rfl) (nq (D4 aU rfl (fun aV af=>?_) (fun aV af=>?_)))
 ·refine sr (b0 E8 underlying39 M6 an fun aW cp aX cq aY aZ=>(av rfl (nq (rr ?_))))
  cases oi af
  exact ey results15 ⟨aW,0,0,aX,rfl,aZ.s,aY⟩
 refine j5 (qr (b0 E8 underlying39 M6 an fun ba cr cs O bb R=>(av rfl (P6 (lv (n8 (ds:=[V3 A a b,V3 B c d]) E2 rfl m4 R rfl rfl) (lv (n8 (ds:=[V3 C f i,V3 D k l]) F2 rfl m3 R rfl rfl) (lv (n8 (ds:=[V6 q2.Kind,sv q2.Field,V3 G m n,V6 q2.From,V6 q2.To,V3 H o p]) C6 rfl m2 R rfl rfl) ?_)))))))
 obtain⟨bc,bd,be⟩:=ob af
 refine lk c1G (a2k F R.enter0 (ax.mono (x.le.trans O)) (ay.mono (x.le.trans O)) (az.mono (x.le.trans O)) (aA.mono (x.le.trans O)) aB aC (aD.mono (x.le.trans O)) aE aF (aG.mono (x.le.trans O)) (hG33.keep R) hD bd) ?_
 rintro ct cu ⟨bf,bg,bh,ag,rfl,ao,V⟩
 have bi:=(R.c0 ao).t6
 refine lv (q7 underlying39 rfl V) (lv (r_m rfl) (nq ?_))
 obtain⟨bj,bk,bl⟩:=ob be
 refine l6 (fun E' w'=>∃W X Y aa,E'=[(3,V6 q3),(11,V3 W X Y)]∧SH w K [] w' aa [tail (V3 W X Y) 45 2]∧I9 ag aa∧b7 E8 aa W X Y bj) ?_ ?_
 ·refine j7 ?_
  obtain⟨cv,bm,bn⟩:=ob bk
  have bo:=bi.f1.f2.sb (sk (sk (sd (sd (sd (sd sz))))))
  refine qF (fun (ap:Nat) (ah:(List B0)) E' w'=>∃y I J S,E'=[(3,V6 q3),(9,pt ae),(11,V3 y I J),(22,V3 bf bg bh),(23,V6 (bc.length:Int)),(24,V6 ((ap:Nat):Int))]∧SH w K [] w' S [u9 ae [V6 q4.Doc,V6 q4.Points] 45,tail (V3 y I J) 45 2]∧I9 ag S∧b7 E8 S y I J ah) bm ⟨ba,0,0,ag,rfl,bo,kr,(bb.mono ao.le)⟩ ?_ ?_
  ·rintro ap ah _ bp cw hi113 bq ⟨y,I,J,S,rfl,ab,T,ac⟩
   refine sr (lv (s7 rfl rfl) (ns (C2 rfl (b8 (by omega)) (j5 (l4 (p9 (j7 (sr ?_))))))))
   obtain⟨s,br,bs⟩:=ob bq
   refine li underlying39 M6 (V.mono T) br fun bu bv cx bz bA=>?_
   obtain⟨rfl,aq,ar⟩:=bz
   have bB:E9 _ bu bv [V6 s.Doc,V6 s.Points]:=bA
   refine lv (F5 M6 rfl ab bB rfl) (al M6 ab fun bC cy bD=>?_)
   have bE:SH _ _ _ _ _ [u9 bC [V6 0,V6 0] 45,_,_]:=bD
   refine lw [V6 s.Doc,V6 s.Points] M6 bE fun cz ad=>(nr (lv (n8 (ds:=[V6 q4.Doc,V6 q4.Points]) M6 rfl m1 ad rfl rfl) (lv (n8 (ds:=[V6 s.Doc,V6 s.Points]) M6 rfl m0 ad rfl rfl) ?_)))
   obtain⟨cA,bF,bG⟩:=ob bs
   refine lk c7j (a6x F ad.enter0 aH aI aq ar bF) ?_
   rintro cB cC ⟨bH,rfl,U,cD⟩
   have ai:=(ad.c0 U).t3
   refine lv (s7 rfl rfl) (nq (D4 bG rfl (fun bI aj=>?_) (fun bI aj=>?_)))
   ·refine j3 (mv rfl (lv (n8 (ds:=[V6 s.Doc,V6 s.Points]) M6 rfl m0 ai rfl rfl) (lb E8 (.agg #[V6 s.Doc,V6 s.Points]) [V6 s.Doc,V6 s.Points] s underlying39 M6 ⟨rfl,aq,ar⟩ ai fun cE cF cG au bJ bK=>?_)))
    obtain⟨cH,bL,bM⟩:=ob aj
    refine lp underlying39 M6 (ac.mono (U.le.trans au)) bJ bL bK.f3 fun bN bO bP cI bQ bR bS bT=>(av rfl (nb (qg (lv (A3 rfl rfl (B5 hi113 (b7.max V))) (mv rfl (i8 ?_))))))
    cases oi bM
    exact qd ⟨bN,bO,bP,bQ,rfl,bT.f3.s,(((T.trans U.le).trans au).trans bR),bS⟩
   refine j5 (x9 (qg (lv (A3 rfl rfl (B5 hi113 (b7.max V))) (mv rfl (i8 ?_)))))
   cases oi aj
   exact qd ⟨y,I,J,bH,rfl,ai.s,(T.trans U.le),(ac.mono U.le)⟩
  rintro ah _ bp bU ⟨y,I,J,S,rfl,ab,T,ac⟩
  subst bU
  refine sr (lv (s7 rfl rfl) (ns (C1 rfl (c6 (by omega)) (w8 (g6 (g6 (l5 ?_)))))))
  cases oi bn
  exact qd ⟨y,I,J,S,rfl,ab.s,T,ac⟩
 rintro _ cJ ⟨W,X,Y,aa,rfl,aw,cK,bV⟩
 refine qr (mv rfl (mv rfl ?_))
 obtain⟨cL,bW,bX⟩:=ob bl
 refine lk c25 (a1T F aw.enter0 bV ak bW) ?_
 rintro cM cN ⟨bY,bZ,ca,cb,rfl,cc,cd⟩
 have ce:=(aw.c0 cc).t2
 refine av rfl (nq (l3 ?_))
 cases oi bX
 exact ey results15 ⟨bY,bZ,ca,cb,rfl,ce.s,cd⟩

theorem a9a {q0:List UInt8}{r:Bool}(hS:SH w K [] w K [])(bj:b7 tU8 K A a b q0)(hG6:a5U C5 0 c L3 w)(hD: ¬dr.D)(hm:a1O F q0=some r):
  Calls prog 4 #[V3 A a b] w (R_b w K r):=by
 rw [a1O] at hm
 refine ci func4 rfl ntmps4 (sr (lv (P2 rfl) (P6 (mv rfl (lv (q7 underlying22 rfl bj) (lv (F9 rfl rfl) (nq (P1 rfl (fun aR=>?_) (fun aR=>?_)))))))))
 ·have h8:=Z8 aR hm
  refine sr (lv (r_t rfl) (nq (rr ?_)))
  cases oi h8
  exact ey results4 ⟨K,rfl,hS⟩
 have h8:=Z7 aR hm
 refine j5 (qr (mv rfl ?_))
 obtain⟨f,bE,bF⟩:=ob h8
 refine lk co9 (a5v F hS.enter0 bj bE) ?_
 rintro dF dG ⟨q,s,x,y,B,C,D,G,H,I,J,O,T,U,V,W,X,Y,dH,rfl,bG,aw,ax,ay,az,aC,aD,aE,aF,aG,aH,aI⟩
 have bH:=(hS.c0 bG).t5
 refine mv rfl (lv (B2 rfl rfl) (lv (B2 rfl rfl) (lv (B2 rfl rfl) (lv (B2 rfl rfl) (al E2 bH fun ab dI bI=>?_)))))
 have bJ:SH _ _ _ _ _ [u9 ab [V3 none 0 0,V3 none 0 0] 26,_,_,_,_,_]:=bI
 refine al F2 bJ fun ac dJ bK=>?_
 have bL:SH _ _ _ _ _ [u9 ac [V3 none 0 0,V3 none 0 0] 30,_,_,_,_,_,_]:=bK
 refine al C6 bL fun ad dK bM=>?_
 have bN:SH _ _ _ _ _ [u9 ad [V6 0,sv [],V3 none 0 0,V6 0,V6 0,V3 none 0 0] 33,_,_,_,_,_,_,_]:=bM
 refine lw [V3 q s x,V3 y B C] E2 bN.f2 fun dL bO=>(lw [V3 D G H,V3 I J O] F2 bO.f2 fun dM bP=>(lw [V6 f.2.2.1.Kind,sv f.2.2.1.Field,V3 T U V,V6 f.2.2.1.From,V6 f.2.2.1.To,V3 W X Y] C6 bP.f2 fun dN ap=>(av rfl (nr (lv (n8 (ds:=[V3 q s x,V3 y B C]) E2 rfl m2 ap rfl rfl) (lv (n8 (ds:=[V3 D G H,V3 I J O]) F2 rfl m1 ap rfl rfl) (lv (n8 (ds:=[V6 f.2.2.1.Kind,sv f.2.2.1.Field,V3 T U V,V6 f.2.2.1.From,V6 f.2.2.1.To,V3 W X Y]) C6 rfl m0 ap rfl rfl) (mv rfl ?_))))))))
 obtain⟨dO,bQ,bR⟩:=ob bF
 refine lk c5E (a7N F ap.enter0 aw ax ay az aC aD aE aF aG aH aI (hG6.keep ap) hD bQ) ?_
 rintro dP dQ ⟨aJ,aK,aL,dR,rfl,l,af⟩
 have aA:=(ap.c0 l).t9
 refine av rfl (nr (lv (n8 (ds:=[V3 q s x,V3 y B C]) E2 rfl m3 aA rfl rfl) (lv (n8 (ds:=[V3 D G H,V3 I J O]) F2 rfl m2 aA rfl rfl) (lv (n8 (ds:=[V6 f.2.2.1.Kind,sv f.2.2.1.Field,V3 T U V,V6 f.2.2.1.From,V6 f.2.2.1.To,V3 W X Y]) C6 rfl m1 aA rfl rfl) (mv rfl ?_)))))
 obtain⟨dS,bS,bT⟩:=ob bR
 refine lk c5L (a7S F aA.enter0 (aw.mono l.le) (ax.mono l.le) (ay.mono l.le) (az.mono l.le) aC aD (aE.mono l.le) aF aG (aH.mono l.le) aI bS) ?_
 rintro dT dU ⟨bU,bV,bW,bk,rfl,k,bl⟩
 have aB:=(aA.c0 k).t10
 refine av rfl (ns (p9 ?_))
 obtain⟨bX,bY,bZ⟩:=ob bT
 refine l6 (IV w K [] bk [(3,pt ab),(4,pt ac),(5,pt ad),(6,V6 f.2.2.2),(7,V3 aJ aK aL),(8,V3 bU bV bW),(45,.bool bX)] [u9 ab [V3 q s x,V3 y B C] 26,u9 ac [V3 D G H,V3 I J O] 30,u9 ad [V6 f.2.2.1.Kind,sv f.2.2.1.Field,V3 T U V,V6 f.2.2.1.From,V6 f.2.2.1.To,V3 W X Y] 33]) ?_ ?_
 ·refine j3 (mv rfl (lv (q7 (t:=(G0 E8)) underlying36 rfl (af.mono k.le)) (mv rfl (lv (q7 (t:=(G0 E8)) underlying36 rfl bl) (lv (S7 rfl rfl) (mv rfl (bt bY (fun ag aT=>?_) (fun ag aT=>?_))))))))
  ·refine lu ag (lu ag (lu ag (lu ag (lv (L8 rfl ag rfl) (mv rfl (lu rfl (lu rfl (lv (L8 rfl rfl rfl) (i8 ?_)))))))))
   cases oi aT
   exact qd ⟨bk,rfl,aB.f2.f3.f4.s,kr⟩
  refine lg ag (n8 (ds:=[V3 q s x,V3 y B C]) E2 rfl m4 aB rfl rfl) (lg ag (n8 (ds:=[V3 D G H,V3 I J O]) F2 rfl m3 aB rfl rfl) ?_)
  obtain⟨dV,ca,cb⟩:=ob aT
  refine A0 (wg rfl rfl ag) rfl (z7 (vs:=[.agg #[V3 q s x,V3 y B C],.agg #[V3 D G H,V3 I J O]]) c1s rfl) (a2Z F aB.enter0 (aw.mono (l.le.trans k.le)) (ax.mono (l.le.trans k.le)) (ay.mono (l.le.trans k.le)) (az.mono (l.le.trans k.le)) ca) ?_
  rintro dW dX ⟨bm,rfl,aU⟩
  refine⟨_,rfl,?_⟩
  have bn:=(aB.c0 aU).t10
  refine lg ag (A4 rfl) (lv (o4 rfl ag rfl) (mv rfl (bt cb (fun am aV=>?_) (fun am aV=>?_))))
  ·refine lu am (lu am (lv (L8 rfl am rfl) (i8 ?_)))
   cases oi aV
   exact qd ⟨bm,rfl,bn.f2.f3.f4.s,aU.le⟩
  refine lg am (i5 rfl) (lg am (s7 rfl rfl) (lv (o4 rfl am rfl) (i8 ?_)))
  cases oi aV
  exact qd ⟨bm,rfl,bn.f2.f3.f4.s,aU.le⟩
 rintro _ dY ⟨aM,rfl,bo,m⟩
 refine l4 (D4 bZ rfl (fun cc aW=>?_) (fun cc aW=>?_))
 ·refine sr (mv rfl (lv (q7 (t:=(G0 E8)) underlying36 rfl (af.mono (k.le.trans m))) (mv rfl (lv (q7 (t:=(G0 E8)) underlying36 rfl (bl.mono m)) (lv (A6 rfl rfl) (av rfl (nq (rr ?_))))))))
  cases oi aW
  exact ey results4 ⟨aM,rfl,bo.s⟩
 refine j5 (qs (sr (lv (N4 rfl) (nq ?_))))
 obtain⟨cd,ce,aN⟩:=ob aW
 refine l6 (IE cd w K [] aM [(3,pt ab),(4,pt ac),(5,pt ad),(6,V6 f.2.2.2),(7,V3 aJ aK aL)] [u9 ab [V3 q s x,V3 y B C] 26,u9 ac [V3 D G H,V3 I J O] 30,u9 ad [V6 f.2.2.1.Kind,sv f.2.2.1.Field,V3 T U V,V6 f.2.2.1.From,V6 f.2.2.1.To,V3 W X Y] 33]) ?_ ?_
 ·refine j7 ?_
  obtain⟨dZ,cf,bp⟩:=ob ce
  refine qw (fun (aO:Int)=>IW w K [] aM [(3,pt ab),(4,pt ac),(5,pt ad),(6,V6 f.2.2.2),(7,V3 aJ aK aL),(9,V6 aO)] [u9 ab [V3 q s x,V3 y B C] 26,u9 ac [V3 D G H,V3 I J O] 30,u9 ad [V6 f.2.2.1.Kind,sv f.2.2.1.Field,V3 T U V,V6 f.2.2.1.From,V6 f.2.2.1.To,V3 W X Y] 33] (i7 aO)) cf ⟨aM,rfl,bo,kr,M1⟩ ?_
  rintro aO _ ea eb cg bq ⟨br,rfl,bs,R,ec⟩
  refine p9 (sr (mv rfl (mv rfl (lv (q7 (t:=(G0 E8)) underlying36 rfl (af.mono ((k.le.trans m).trans R))) (lv (s7 rfl rfl) (nq (D4 cg rfl (fun ch aX=>?_) (fun ch aX=>?_))))))))
  ·refine j5 (qs (j7 (p9 ?_)))
   have an:=bs.drew
   refine j_0 (fun w'=>G8 br w'∧A9 ab [V3 q s x,V3 y B C] w'∧A9 ac [V3 D G H,V3 I J O] w'∧A9 ad [V6 f.2.2.1.Kind,sv f.2.2.1.Field,V3 T U V,V6 f.2.2.1.From,V6 f.2.2.1.To,V3 W X Y] w') 18 [] mixed ⟨an.hasK kr,an.hasObj m0,an.hasObj m1,an.hasObj m2⟩ (jh 0 rfl (fun _ h=>B4 (ds:=[V3 q s x,V3 y B C]) E2 rfl rfl rfl h.2.1) (jh 1 rfl (fun _ h=>B4 (ds:=[V3 D G H,V3 I J O]) F2 rfl rfl rfl h.2.2.1) (jh 2 rfl (fun _ h=>B4 (ds:=[V6 f.2.2.1.Kind,sv f.2.2.1.Field,V3 T U V,V6 f.2.2.1.From,V6 f.2.2.1.To,V3 W X Y]) C6 rfl rfl rfl h.2.2.2) (jv 3 rfl (i5 rfl) (jv 4 rfl (i5 rfl) (jv 5 rfl (i5 rfl) ?_))))))
   obtain⟨ed,cj,ck⟩:=ob aX
   refine ji 6 rfl underlying36 a3W (af.mono ((k.le.trans m).trans R)) cj fun cl cm ee cn cp=>?_
   obtain⟨cq,cr,ct,rfl,cu⟩:=cn
   have cv:E9 _ cl cm [V3 cq cr ct]:=cp
   refine jh 7 rfl (fun _ h=>T7 a3W rfl (cv 0 _ rfl) h.1) (jv 8 rfl (i5 rfl) (jv 9 rfl (i5 rfl) ?_))
   obtain⟨ef,cw,cx⟩:=ob ck
   refine ji 10 rfl underlying36 a3W (af.mono ((k.le.trans m).trans R)) cw fun cy cz eg cA cB=>?_
   obtain⟨cC,cD,cE,rfl,cF⟩:=cA
   have cG:E9 _ cy cz [V3 cC cD cE]:=cB
   refine jh 11 rfl (fun _ h=>T7 a3W rfl (cG 0 _ rfl) h.1) (jv 12 rfl (q7 underlying39 rfl cF) (jv 13 rfl (H2 rfl rfl) ?_))
   obtain⟨aP,cH,cI⟩:=ob cx
   refine ji 14 rfl underlying39 M6 cu cH fun cJ cK eh cL cM=>?_
   obtain⟨rfl,cN,cO⟩:=cL
   have cP:E9 _ cJ cK [V6 aP.Doc,V6 aP.Points]:=cM
   refine jh 15 rfl (fun _ h=>a5C (cs:=[V6 aP.Doc,V6 aP.Points]) M6 rfl cP rfl h.1) (j1 16 rfl ?_)
   obtain⟨ei,cQ,cR⟩:=ob cI
   refine lk c65 (b0J F an.enter0 (b7.mono (((l.le.trans k.le).trans m).trans R) aw) (b7.mono (((l.le.trans k.le).trans m).trans R) ax) (b7.mono (((l.le.trans k.le).trans m).trans R) ay) (b7.mono (((l.le.trans k.le).trans m).trans R) az) aC aD (b7.mono (((l.le.trans k.le).trans m).trans R) aE) aF aG (b7.mono (((l.le.trans k.le).trans m).trans R) aH) aI cN cO (hG6.keep an) hD cQ) ?_
   rintro ej ek ⟨cS,cT,cU,aY,rfl,ao,aZ⟩
   have ah:=(an.c0 ao).t4
   refine R7 ⟨ah.hasK ao.le,ah.hasObj m1,ah.hasObj m2,ah.hasObj m3⟩ (jv 17 rfl (x8 rfl) (jd (qs ?_)))
   obtain⟨cV,cW,cX⟩:=ob cR
   refine l6 (IV w K [] aY [(3,pt ab),(4,pt ac),(5,pt ad),(6,V6 f.2.2.2),(7,V3 aJ aK aL),(9,V6 aO),(100,.bool cV)] [u9 ab [V3 q s x,V3 y B C] 26,u9 ac [V3 D G H,V3 I J O] 30,u9 ad [V6 f.2.2.1.Kind,sv f.2.2.1.Field,V3 T U V,V6 f.2.2.1.From,V6 f.2.2.1.To,V3 W X Y] 33]) ?_ ?_
   ·refine j3 (mv rfl (lv (y4 rfl rfl) (mv rfl (lv (q7 (t:=(G0 E8)) underlying36 rfl (b7.mono (((k.le.trans m).trans R).trans ao.le) af)) (lv (s7 rfl rfl) (mv rfl (bt cW (fun ae ba=>?_) (fun ae ba=>?_))))))))
    ·refine lg ae (i5 rfl) (lg ae (i5 rfl) (lg ae (i5 rfl) (lg ae (y4 rfl rfl) ?_)))
     obtain⟨el,cY,cZ⟩:=ob ba
     refine I3 (t:=(G0 E8)) (wg rfl rfl ae) rfl underlying36 a3W rfl rfl (b7.mono (((k.le.trans m).trans R).trans ao.le) af) cY fun da db em dc dd=>?_
     obtain⟨bu,bv,bx,rfl,de⟩:=dc
     have df:E9 _ da db [V3 bu bv bx]:=dd
     refine lg ae (y7 a3W rfl ah (df 0 _ rfl)) ?_
     obtain⟨en,dg,dh⟩:=ob cZ
     refine A0 (wg rfl rfl ae) rfl (z7 (vs:=[V3 cS cT cU,V3 bu bv bx]) b72 rfl) (Y5 F ah.enter0 aZ de dg) ?_
     rintro eo ep ⟨bb,rfl,aq⟩
     refine⟨_,rfl,?_⟩
     have bc:=(ah.c0 aq).t4
     refine lg ae (A4 rfl) (lv (o0 rfl ae rfl) (mv rfl (bt dh (fun S bd=>?_) (fun S bd=>?_))))
     ·iterate 6 refine lu S ?_
      refine A2 (uu rfl rfl) rfl (A2 (uu rfl rfl) rfl (A2 (uu rfl rfl) rfl (lu S (lv (L8 rfl S rfl) (i8 ?_)))))
      cases oi bd
      exact qd ⟨bb,rfl,bc.s,aq.le⟩
     refine lg S (i5 rfl) (lg S (y4 rfl rfl) (lg S (i5 rfl) (lg S (q7 (t:=(G0 E8)) underlying36 rfl (b7.mono ((((k.le.trans m).trans R).trans ao.le).trans aq.le) af)) (lg S (A6 rfl rfl) (lg S (i5 rfl) (bt bd (fun ai be=>?_) (fun ai be=>?_)))))))
     ·refine lg ai (i5 rfl) (lg ai (q7 underlying39 rfl (aZ.mono aq.le)) (lg ai (F9 rfl rfl) (lg S (o0 rfl ai rfl) (lv (o4 rfl S rfl) (i8 ?_)))))
      cases oi be
      exact qd ⟨bb,rfl,bc.s,aq.le⟩
     refine lu ai (lu ai (lu ai (lg S (J6 rfl ai rfl) (lv (o4 rfl S rfl) (i8 ?_)))))
     cases oi be
     exact qd ⟨bb,rfl,bc.s,aq.le⟩
    iterate 8 refine lu ae ?_
    refine lv (J6 rfl ae rfl) (mv rfl (lg rfl (i5 rfl) (lg rfl (y4 rfl rfl) (lg rfl (i5 rfl) (lg rfl (q7 (t:=(G0 E8)) underlying36 rfl (b7.mono (((k.le.trans m).trans R).trans ao.le) af)) (lg rfl (A6 rfl rfl) (lg rfl (i5 rfl) (bt ba (fun aj bf=>?_) (fun aj bf=>?_)))))))))
    ·refine lg aj (i5 rfl) (lg aj (q7 underlying39 rfl aZ) (lg aj (F9 rfl rfl) (lg rfl (o0 rfl aj rfl) (lv (o4 rfl rfl rfl) (i8 ?_)))))
     cases oi bf
     exact qd ⟨aY,rfl,ah.s,kr⟩
    refine lu aj (lu aj (lu aj (lg rfl (J6 rfl aj rfl) (lv (o4 rfl rfl rfl) (i8 ?_)))))
    cases oi bf
    exact qd ⟨aY,rfl,ah.s,kr⟩
   rintro _ eq ⟨bz,rfl,bA,di⟩
   refine l4 (D4 cX rfl (fun dj bg=>?_) (fun dj bg=>?_))
   ·refine sr (lv (P2 rfl) (nq (l3 (j6 (g8 (g8 ?_))))))
    cases oi bg
    cases bq _ rfl
    refine j6 (g8 ?_)
    cases oi bp
    refine g8 ?_
    cases oi aN
    exact ey results4 ⟨bz,rfl,bA.s⟩
   refine j5 (x9 (l4 (j3 (mv rfl (lv (y4 rfl rfl) (av rfl (i8 ?_)))))))
   cases oi bg
   exact qd ⟨_,rfl,bz,rfl,bA,((R.trans ao.le).trans di),(s6 _)⟩
  refine w8 (g6 (g6 ?_))
  cases oi aX
  cases bq _ rfl
  refine l5 ?_
  cases oi bp
  exact qd ⟨_,br,rfl,rfl,bs,R⟩
 rintro _ es ⟨et,bh,rfl,rfl,dk,ak⟩
 have aN:=F6 aN
 refine qs (b2K (fun w'=>G8 bh w'∧A9 ab [V3 q s x,V3 y B C] w'∧A9 ac [V3 D G H,V3 I J O] w'∧A9 ad [V6 f.2.2.1.Kind,sv f.2.2.1.Field,V3 T U V,V6 f.2.2.1.From,V6 f.2.2.1.To,V3 W X Y] w') (fun w'=>True) 15 [] mixed ?_)
 have d:=dk.drew
 refine I6 (i:=0) (listed':=L_ 15 0) (fun _=>True) rfl (by kernel_rfl) (j8 C0) (by kernel_rfl) rfl (by kernel_rfl) (by kernel_rfl) rfl (.inl fun _ _=>trivial) ⟨⟨d.hasK kr,d.hasObj m0,d.hasObj m1,d.hasObj m2⟩,(fun _=>trivial),by decide⟩ wn rfl (fun _ _=>(i5 rfl)) (I6 (i:=1) (listed':=L_ 15 1) (fun _=>True) rfl (by kernel_rfl) (j8 C0) (by kernel_rfl) rfl (by kernel_rfl) (by kernel_rfl) rfl (.inl fun _ _=>trivial) ⟨⟨d.hasK kr,d.hasObj m0,d.hasObj m1,d.hasObj m2⟩,(fun _=>trivial),by decide⟩ wn rfl (fun _ _=>(q7 (t:=(G0 E8)) underlying36 rfl (af.mono ((k.le.trans m).trans ak)))) (I6 (i:=2) (listed':=L_ 15 2) (fun _=>True) rfl (by kernel_rfl) (j8 C0) (by kernel_rfl) rfl (by kernel_rfl) (by kernel_rfl) rfl (.inl fun _ _=>trivial) ⟨⟨d.hasK kr,d.hasObj m0,d.hasObj m1,d.hasObj m2⟩,(fun _=>trivial),by decide⟩ wn rfl (fun _ _=>(A6 rfl rfl)) ?_))
 refine I6 (i:=3) (listed':=L_ 15 3) (fun _=>True) rfl (by kernel_rfl) (j8 C0) (by kernel_rfl) rfl (by kernel_rfl) (by kernel_rfl) rfl (.inl fun _ _=>trivial) ⟨⟨d.hasK kr,d.hasObj m0,d.hasObj m1,d.hasObj m2⟩,(fun _=>trivial),by decide⟩ wn rfl (fun _ _=>(i5 rfl)) (bt aN (fun o bi=>?_) (fun o bi=>?_))
 ·refine a0s (i:=4) (listed':=L_ 15 4) rfl (by kernel_rfl) (j8 C0) (by kernel_rfl) rfl (by kernel_rfl) (by kernel_rfl) rfl ⟨⟨d.hasK kr,d.hasObj m0,d.hasObj m1,d.hasObj m2⟩,(fun _=>trivial),by decide⟩ (ug rfl rfl o) rfl (a0s (i:=5) (listed':=L_ 15 5) rfl (by kernel_rfl) (j8 C0) (by kernel_rfl) rfl (by kernel_rfl) (by kernel_rfl) rfl ⟨⟨d.hasK kr,d.hasObj m0,d.hasObj m1,d.hasObj m2⟩,(fun _=>trivial),by decide⟩ (ug rfl rfl o) rfl (a0s (i:=6) (listed':=L_ 15 6) rfl (by kernel_rfl) (j8 C0) (by kernel_rfl) rfl (by kernel_rfl) (by kernel_rfl) rfl ⟨⟨d.hasK kr,d.hasObj m0,d.hasObj m1,d.hasObj m2⟩,(fun _=>trivial),by decide⟩ (ug rfl rfl o) rfl ?_))
  refine a0s (i:=7) (listed':=L_ 15 7) rfl (by kernel_rfl) (j8 C0) (by kernel_rfl) rfl (by kernel_rfl) (by kernel_rfl) rfl ⟨⟨d.hasK kr,d.hasObj m0,d.hasObj m1,d.hasObj m2⟩,(fun _=>trivial),by decide⟩ (ug rfl rfl o) rfl (a0s (i:=9) (listed':=#[true,true,true,true,true,true,true,true,false,true,false,false,false,false,false]) rfl (by kernel_rfl) (j8 C0) (by kernel_rfl) rfl (by kernel_rfl) (by kernel_rfl) rfl ⟨⟨d.hasK kr,d.hasObj m0,d.hasObj m1,d.hasObj m2⟩,(fun _=>trivial),by decide⟩ (ug rfl rfl o) rfl (a0s (i:=10) (listed':=#[true,true,true,true,true,true,true,true,false,true,true,false,false,false,false]) rfl (by kernel_rfl) (j8 C0) (by kernel_rfl) rfl (by kernel_rfl) (by kernel_rfl) rfl ⟨⟨d.hasK kr,d.hasObj m0,d.hasObj m1,d.hasObj m2⟩,(fun _=>trivial),by decide⟩ (ug rfl rfl o) rfl (a0s (i:=11) (listed':=#[true,true,true,true,true,true,true,true,false,true,true,true,false,false,false]) rfl (by kernel_rfl) (j8 C0) (by kernel_rfl) rfl (by kernel_rfl) (by kernel_rfl) rfl ⟨⟨d.hasK kr,d.hasObj m0,d.hasObj m1,d.hasObj m2⟩,(fun _=>trivial),by decide⟩ (ug rfl rfl o) rfl ?_)))
  refine a5G (i:=8) (by kernel_rfl) rfl (lu o (i8 (a40 (listed':=L_ 15 11) rfl ⟨⟨d.hasK kr,d.hasObj m0,d.hasObj m1,d.hasObj m2⟩,(fun _=>trivial),by decide⟩ (a5G (i:=12) (by kernel_rfl) rfl (lu o (i8 (a40 (listed':=L_ 15 12) rfl ⟨⟨d.hasK kr,d.hasObj m0,d.hasObj m1,d.hasObj m2⟩,(fun _=>trivial),by decide⟩ (I6 (i:=13) (listed':=L_ 15 13) (fun _=>True) rfl (by kernel_rfl) (j8 C0) (by kernel_rfl) rfl (by kernel_rfl) (by kernel_rfl) rfl (.inl fun _ _=>trivial) ⟨⟨d.hasK kr,d.hasObj m0,d.hasObj m1,d.hasObj m2⟩,(fun _=>trivial),by decide⟩ wn rfl (fun _ _=>(L8 rfl o rfl)) (I6 (i:=14) (listed':=L_ 15 14) (fun _=>True) rfl (by kernel_rfl) (j8 C0) (by kernel_rfl) rfl (by kernel_rfl) (by kernel_rfl) rfl (.inl fun _ _=>trivial) ⟨⟨d.hasK kr,d.hasObj m0,d.hasObj m1,d.hasObj m2⟩,(fun _=>trivial),by decide⟩ wn rfl (fun _ _=>(x8 rfl)) ?_)))))))))
  refine a61 (by kernel_rfl) (l4 (l3 ?_))
  cases oi bi
  exact ey results4 ⟨bh,rfl,d.s⟩
 refine I6 (i:=4) (listed':=L_ 15 4) (A9 ab [V3 q s x,V3 y B C]) rfl (by kernel_rfl) (j8 C0) (by kernel_rfl) rfl (by kernel_rfl) (by kernel_rfl) rfl (.inl fun _ h=>h.2.1) ⟨⟨d.hasK kr,d.hasObj m0,d.hasObj m1,d.hasObj m2⟩,(fun _=>trivial),by decide⟩ (wg rfl rfl o) rfl (fun _ h=>B4 (ds:=[V3 q s x,V3 y B C]) E2 rfl rfl rfl h) (I6 (i:=5) (listed':=L_ 15 5) (A9 ac [V3 D G H,V3 I J O]) rfl (by kernel_rfl) (j8 C0) (by kernel_rfl) rfl (by kernel_rfl) (by kernel_rfl) rfl (.inl fun _ h=>h.2.2.1) ⟨⟨d.hasK kr,d.hasObj m0,d.hasObj m1,d.hasObj m2⟩,(fun _=>trivial),by decide⟩ (wg rfl rfl o) rfl (fun _ h=>B4 (ds:=[V3 D G H,V3 I J O]) F2 rfl rfl rfl h) ?_)
 refine I6 (i:=6) (listed':=L_ 15 6) (A9 ad [V6 f.2.2.1.Kind,sv f.2.2.1.Field,V3 T U V,V6 f.2.2.1.From,V6 f.2.2.1.To,V3 W X Y]) rfl (by kernel_rfl) (j8 C0) (by kernel_rfl) rfl (by kernel_rfl) (by kernel_rfl) rfl (.inl fun _ h=>h.2.2.2) ⟨⟨d.hasK kr,d.hasObj m0,d.hasObj m1,d.hasObj m2⟩,(fun _=>trivial),by decide⟩ (wg rfl rfl o) rfl (fun _ h=>B4 (ds:=[V6 f.2.2.1.Kind,sv f.2.2.1.Field,V3 T U V,V6 f.2.2.1.From,V6 f.2.2.1.To,V3 W X Y]) C6 rfl rfl rfl h) (I6 (i:=7) (listed':=L_ 15 7) (fun _=>True) rfl (by kernel_rfl) (j8 C0) (by kernel_rfl) rfl (by kernel_rfl) (by kernel_rfl) rfl (.inl fun _ _=>trivial) ⟨⟨d.hasK kr,d.hasObj m0,d.hasObj m1,d.hasObj m2⟩,(fun _=>trivial),by decide⟩ (wg rfl rfl o) rfl (fun _ _=>(i5 rfl)) ?_)
 refine I6 (i:=9) (listed':=#[true,true,true,true,true,true,true,true,false,true,false,false,false,false,false]) (fun _=>True) rfl (by kernel_rfl) (j8 C0) (by kernel_rfl) rfl (by kernel_rfl) (by kernel_rfl) rfl (.inl fun _ _=>trivial) ⟨⟨d.hasK kr,d.hasObj m0,d.hasObj m1,d.hasObj m2⟩,(fun _=>trivial),by decide⟩ (wg rfl rfl o) rfl (fun _ _=>(i5 rfl)) ?_
 obtain⟨eu,dl,dm⟩:=ob bi
 refine b0i (t:=(G0 E8)) (j:=10) (listed':=#[true,true,true,true,true,true,true,true,false,true,true,false,false,false,false]) rfl (by kernel_rfl) (j8 C0) (by kernel_rfl) rfl (by kernel_rfl) (by kernel_rfl) rfl ⟨⟨d.hasK kr,d.hasObj m0,d.hasObj m1,d.hasObj m2⟩,(fun _=>trivial),by decide⟩ (wg rfl rfl o) rfl underlying36 a3W rfl rfl (af.mono ((k.le.trans m).trans ak)) dl fun dn dp ev dq dt=>?_
 obtain⟨bB,bC,bD,rfl,du⟩:=dq
 have dv:E9 _ dn dp [V3 bB bC bD]:=dt
 refine I6 (i:=11) (listed':=#[true,true,true,true,true,true,true,true,false,true,true,true,false,false,false]) (G8 bh) rfl (by kernel_rfl) (j8 C0) (by kernel_rfl) rfl (by kernel_rfl) (by kernel_rfl) rfl (.inl fun _ h=>h.1) ⟨⟨d.hasK kr,d.hasObj m0,d.hasObj m1,d.hasObj m2⟩,(fun _=>trivial),by decide⟩ (wg rfl rfl o) rfl (fun _ h=>T7 a3W rfl (dv 0 _ rfl) h) (a5G (i:=8) (by kernel_rfl) rfl ?_)
 obtain⟨ew,dw,dx⟩:=ob dm
 refine A0 (wg rfl rfl o) rfl (z7 (vs:=[.agg #[V3 q s x,V3 y B C],.agg #[V3 D G H,V3 I J O],.agg #[V6 f.2.2.1.Kind,sv f.2.2.1.Field,V3 T U V,V6 f.2.2.1.From,V6 f.2.2.1.To,V3 W X Y],V6 f.2.2.2]) c4J rfl) (a57 F d.enter0 (b7.mono (((l.le.trans k.le).trans m).trans ak) aw) (b7.mono (((l.le.trans k.le).trans m).trans ak) ax) (b7.mono (((l.le.trans k.le).trans m).trans ak) ay) (b7.mono (((l.le.trans k.le).trans m).trans ak) az) aC aD (b7.mono (((l.le.trans k.le).trans m).trans ak) aE) aF aG (b7.mono (((l.le.trans k.le).trans m).trans ak) aH) aI (hG6.keep d) hD dw) ?_
 rintro ex eA ⟨dy,dz,dA,eB,rfl,ar,dB⟩
 refine⟨_,rfl,?_⟩
 have au:=(d.c0 ar).t4
 refine i8 (a40 (listed':=L_ 15 11) rfl ⟨⟨au.hasK ar.le,au.hasObj m1,au.hasObj m2,au.hasObj m3⟩,(fun _=>trivial),by decide⟩ (a5G (i:=12) (by kernel_rfl) rfl ?_))
 obtain⟨eC,dC,dD⟩:=ob dx
 refine A0 (wg rfl rfl o) rfl (z7 (vs:=[V3 dy dz dA,V3 bB bC bD]) b72 rfl) (Y5 F au.enter0 dB (du.mono ar.le) dC) ?_
 rintro eD eE ⟨dE,rfl,aQ⟩
 refine⟨_,rfl,?_⟩
 have aa:=(au.c0 aQ).t4
 refine i8 (a40 (listed':=L_ 15 12) rfl ⟨⟨aa.hasK (ar.le.trans aQ.le),aa.hasObj m1,aa.hasObj m2,aa.hasObj m3⟩,(fun _=>trivial),by decide⟩ (I6 (i:=13) (listed':=L_ 15 13) (fun _=>True) rfl (by kernel_rfl) (j8 C0) (by kernel_rfl) rfl (by kernel_rfl) (by kernel_rfl) rfl (.inl fun _ _=>trivial) ⟨⟨aa.hasK (ar.le.trans aQ.le),aa.hasObj m1,aa.hasObj m2,aa.hasObj m3⟩,(fun _=>trivial),by decide⟩ wn rfl (fun _ _=>(o4 rfl o rfl)) (I6 (i:=14) (listed':=L_ 15 14) (fun _=>True) rfl (by kernel_rfl) (j8 C0) (by kernel_rfl) rfl (by kernel_rfl) (by kernel_rfl) rfl (.inl fun _ _=>trivial) ⟨⟨aa.hasK (ar.le.trans aQ.le),aa.hasObj m1,aa.hasObj m2,aa.hasObj m3⟩,(fun _=>trivial),by decide⟩ wn rfl (fun _ _=>(x8 rfl)) (a61 (by kernel_rfl) (l4 (l3 ?_))))))
 cases oi dD
 exact ey results4 ⟨dE,rfl,aa.s⟩
end Go.Proofs.YtepcfgnicnibnaaGreatDoor
