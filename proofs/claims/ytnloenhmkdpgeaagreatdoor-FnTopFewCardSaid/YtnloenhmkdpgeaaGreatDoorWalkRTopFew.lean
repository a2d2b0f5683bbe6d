/-
 Walks of the functions. Printed by gen.py.
-/
import Derived.Test.YtnloenhmkdpgeaaGreatDoorModelLTopFew
import Derived.Test.YtnloenhmkdpgeaaGreatDoorWalkA4
import Derived.Test.YtnloenhmkdpgeaaGreatDoorWalkFT
set_option linter.unusedVariables false
set_option linter.unusedSectionVars false
set_option maxRecDepth 100000
namespace Go.Proofs.YtnloenhmkdpgeaaGreatDoor
set_option maxHeartbeats 4000000
open Go Go.Fk Go.RowKit Tryz
variable (F:Nat){w:World}{K:F9}{Z:List Nat}{g1 g2 g3:Nat}{A B C D G H I J O R S T:Option Addr}{a b c d f i k l m n o p q s v x y aa ab ac ad ae af ag:Nat}
variable [dr:Dr]

theorem b1A {q0:List UInt8}{r:Bool}(hS:SH w K [] w K [])(aO:b7 tU8 K A a b q0)(hG6:a4i y6 1 c G8 w)(hD: ¬dr.D)(hm:a3X F q0=some r):
  Calls prog 7 #[V3 A a b] w (R_b w K r):=by
 rw [a3X] at hm
 refine ci func7 rfl ntmps7 (sr (lv (O6 rfl) (O7 (mv rfl (lv (q9 underlying22 rfl aO) (lv (E7 rfl rfl) (nq (R9 rfl (fun aC=>?_) (fun aC=>?_)))))))))
 ·have h8:=a1a aC hm
  refine sr (lv (r_t rfl) (nq (rr ?_)))
  cases oi h8
  exact ey results7 ⟨K,rfl,hS⟩
 have h8:=a09 aC hm
 refine j3 (qr (mv rfl ?_))
 obtain⟨d,aY,aZ⟩:=ob h8
 refine lk c1G (a0V F hS.enter0 aO aY) ?_
 rintro ce cf ⟨l,m,o,q,s,x,y,B,C,D,G,H,R,S,T,U,V,W,cg,rfl,ba,af,ag,ah,ai,ak,am,an,ao,ap,aq,az⟩
 have bb:=(hS.c0 ba).t5
 refine mv rfl (lv (y3 rfl rfl) (lv (y3 rfl rfl) (lv (y3 rfl rfl) (lv (y3 rfl rfl) (al B9 bb fun ar ch bc=>?_)))))
 have bd:SH _ _ _ _ _ [s7 ar [V3 none 0 0,V3 none 0 0] 26,_,_,_,_,_]:=bc
 refine al C4 bd fun au cj be=>?_
 have bf:SH _ _ _ _ _ [s7 au [V3 none 0 0,V3 none 0 0] 30,_,_,_,_,_,_]:=be
 refine al B1 bf fun aw ck bg=>?_
 have bh:SH _ _ _ _ _ [s7 aw [V6 0,sv [],V3 none 0 0,V6 0,V6 0,V3 none 0 0] 35,_,_,_,_,_,_,_]:=bg
 refine lw [V3 l m o,V3 q s x] B9 bh.f2 fun cl bi=>(lw [V3 y B C,V3 D G H] C4 bi.f2 fun cm bj=>(lw [V6 d.2.2.1.Kind,sv d.2.2.1.Field,V3 R S T,V6 d.2.2.1.From,V6 d.2.2.1.To,V3 U V W] B1 bj.f2 fun cn aj=>(av rfl (nr (lv (j6 (ds:=[V3 l m o,V3 q s x]) B9 rfl m2 aj rfl rfl) (lv (j6 (ds:=[V3 y B C,V3 D G H]) C4 rfl m1 aj rfl rfl) (lv (j6 (ds:=[V6 d.2.2.1.Kind,sv d.2.2.1.Field,V3 R S T,V6 d.2.2.1.From,V6 d.2.2.1.To,V3 U V W]) B1 rfl m0 aj rfl rfl) (mv rfl ?_))))))))
 obtain⟨cp,bk,bl⟩:=ob aZ
 refine lk b6y (a0b F aj.enter0 af ag ah ai ak am an ao ap aq az (hG6.keep aj) hD bk) ?_
 rintro cq cr ⟨aP,aQ,aR,bm,rfl,f,aE⟩
 have ax:=(aj.c0 f).t9
 refine av rfl (ns (o4 ?_))
 obtain⟨bn,bo,bp⟩:=ob bl
 refine l4 (IV w K [] bm [(3,pt ar),(4,pt au),(5,pt aw),(6,V6 d.2.2.2),(7,V3 aP aQ aR),(46,.bool bn)] [s7 ar [V3 l m o,V3 q s x] 26,s7 au [V3 y B C,V3 D G H] 30,s7 aw [V6 d.2.2.1.Kind,sv d.2.2.1.Field,V3 R S T,V6 d.2.2.1.From,V6 d.2.2.1.To,V3 U V W] 35]) ?_ ?_
 ·refine j5 (mv rfl (lv (j6 (ds:=[V3 l m o,V3 q s x]) B9 rfl m3 ax rfl rfl) (lv (j6 (ds:=[V3 y B C,V3 D G H]) C4 rfl m2 ax rfl rfl) (lv (j6 (ds:=[V6 d.2.2.1.Kind,sv d.2.2.1.Field,V3 R S T,V6 d.2.2.1.From,V6 d.2.2.1.To,V3 U V W]) B1 rfl m1 ax rfl rfl) (mv rfl ?_)))))
  obtain⟨cs,bq,br⟩:=ob bo
  refine lk b6A (a0c F ax.enter0 (af.mono f.le) (ag.mono f.le) (ah.mono f.le) (ai.mono f.le) ak am (an.mono f.le) ao ap (aq.mono f.le) az bq) ?_
  rintro ct cu ⟨cv,cw,cx,cy,rfl,O,bs⟩
  have aS:=(ax.c0 O).t9
  obtain⟨cz,bu,bv⟩:=ob br
  refine lk b4A (R1 F aS.enter0 (aE.mono O.le) bs bu) ?_
  rintro cA cB ⟨bx,rfl,X⟩
  have ay:=(aS.c0 X).t9
  refine lv (A4 rfl) (mv rfl (bt bv (fun I aF=>?_) (fun I aF=>?_)))
  ·refine lu I (lu I (lu I (lu I (lv (J6 rfl I rfl) (mv rfl (lu rfl (lu rfl (lv (J6 rfl rfl rfl) (mv rfl ?_)))))))))
   refine lu rfl (lu rfl (lv (J6 rfl rfl rfl) (i8 ?_)))
   cases oi aF
   exact qd ⟨bx,rfl,ay.f1.f2.f3.s,(O.le.trans X.le)⟩
  refine lg I (j6 (ds:=[V3 l m o,V3 q s x]) B9 rfl m3 ay rfl rfl) (lg I (j6 (ds:=[V3 y B C,V3 D G H]) C4 rfl m2 ay rfl rfl) ?_)
  obtain⟨cC,bz,bA⟩:=ob aF
  refine A3 (wg rfl rfl I) rfl (A2 (vs:=[.agg #[V3 l m o,V3 q s x],.agg #[V3 y B C,V3 D G H]]) a9k rfl) (J1 F ay.enter0 (af.mono ((f.le.trans O.le).trans X.le)) (ag.mono ((f.le.trans O.le).trans X.le)) (ah.mono ((f.le.trans O.le).trans X.le)) (ai.mono ((f.le.trans O.le).trans X.le)) bz) ?_
  rintro cD cE ⟨aG,rfl,aA⟩
  refine⟨_,rfl,?_⟩
  have aH:=(ay.c0 aA).t9
  refine lg I (A4 rfl) (lv (l9 rfl I rfl) (mv rfl (bt bA (fun ac aI=>?_) (fun ac aI=>?_))))
  ·refine lu ac (lu ac (lv (J6 rfl ac rfl) (mv rfl (lu rfl (lu rfl (lv (J6 rfl rfl rfl) (i8 ?_)))))))
   cases oi aI
   exact qd ⟨aG,rfl,aH.f1.f2.f3.s,((O.le.trans X.le).trans aA.le)⟩
  refine lg ac (i5 rfl) (lg ac (u7 rfl rfl) (lv (l9 rfl ac rfl) (mv rfl (bt aI (fun ad aJ=>?_) (fun ad aJ=>?_)))))
  ·refine lu ad (lu ad (lv (J6 rfl ad rfl) (i8 ?_)))
   cases oi aJ
   exact qd ⟨aG,rfl,aH.f1.f2.f3.s,((O.le.trans X.le).trans aA.le)⟩
  refine lg ad (i5 rfl) (lg ad (E7 rfl rfl) (lv (l9 rfl ad rfl) (i8 ?_)))
  cases oi aJ
  exact qd ⟨aG,rfl,aH.f1.f2.f3.s,((O.le.trans X.le).trans aA.le)⟩
 rintro _ cF ⟨cG,rfl,J,i⟩
 refine l5 (D5 bp rfl (fun bB aK=>?_) (fun bB aK=>?_))
 ·refine sr (mv rfl (lv (j6 (ds:=[V3 l m o,V3 q s x]) B9 rfl m0 J rfl rfl) (lv (j6 (ds:=[V3 y B C,V3 D G H]) C4 rfl m1 J rfl rfl) (lv (j6 (ds:=[V6 d.2.2.1.Kind,sv d.2.2.1.Field,V3 R S T,V6 d.2.2.1.From,V6 d.2.2.1.To,V3 U V W]) B1 rfl m2 J rfl rfl) (mv rfl ?_)))))
  obtain⟨cH,bC,bD⟩:=ob aK
  refine lk b6A (a0c F J.enter0 (af.mono (f.le.trans i)) (ag.mono (f.le.trans i)) (ah.mono (f.le.trans i)) (ai.mono (f.le.trans i)) ak am (an.mono (f.le.trans i)) ao ap (aq.mono (f.le.trans i)) az bC) ?_
  rintro cI cJ ⟨cK,cL,cM,cN,rfl,aT,bE⟩
  have aU:=(J.c0 aT).t3
  obtain⟨cO,bF,bG⟩:=ob bD
  refine lk b4A (R1 F aU.enter0 (aE.mono (i.trans aT.le)) bE bF) ?_
  rintro cP cQ ⟨bH,rfl,bI⟩
  have bJ:=(aU.c0 bI).t3
  refine av rfl (nq (rr ?_))
  cases oi bG
  exact ey results7 ⟨bH,rfl,bJ.s⟩
 refine j3 (qr (lv (j6 (ds:=[V3 l m o,V3 q s x]) B9 rfl m0 J rfl rfl) (lv (j6 (ds:=[V3 y B C,V3 D G H]) C4 rfl m1 J rfl rfl) (lv (j6 (ds:=[V6 d.2.2.1.Kind,sv d.2.2.1.Field,V3 R S T,V6 d.2.2.1.From,V6 d.2.2.1.To,V3 U V W]) B1 rfl m2 J rfl rfl) ?_))))
 obtain⟨cR,bK,bL⟩:=ob aK
 refine lk b6y (a0b F J.enter0 (af.mono (f.le.trans i)) (ag.mono (f.le.trans i)) (ah.mono (f.le.trans i)) (ai.mono (f.le.trans i)) ak am (an.mono (f.le.trans i)) ao ap (aq.mono (f.le.trans i)) (by decide :i7 16) (hG6.keep J) hD bK) ?_
 rintro cS cT ⟨bM,bN,bO,aL,rfl,aa,aB⟩
 have aV:=(J.c0 aa).t4
 refine av rfl (nr (mv rfl (lv (q9 underlying57 rfl aB) (av rfl (O7 (mv rfl (mv rfl (lv (E7 rfl rfl) (nq ?_)))))))))
 obtain⟨aW,bP,bQ⟩:=ob bL
 refine l4 (IW w K [] aL [(3,pt ar),(4,pt au),(5,pt aw),(7,V3 aP aQ aR),(8,V3 bM bN bO),(9,V6 aW)] [s7 ar [V3 l m o,V3 q s x] 26,s7 au [V3 y B C,V3 D G H] 30,s7 aw [V6 d.2.2.1.Kind,sv d.2.2.1.Field,V3 R S T,V6 d.2.2.1.From,V6 d.2.2.1.To,V3 U V W] 35] (i7 aW)) ?_ ?_
 ·refine D5 bP rfl (fun bR aM=>?_) (fun bR aM=>?_)
  ·refine j5 (mv rfl (av rfl (i8 ?_)))
   cases oi aM
   exact qd ⟨aL,rfl,aV.s,kr,az⟩
  refine j3 ?_
  cases oi aM
  exact qd ⟨aL,rfl,aV.s,kr,aB.rn⟩
 rintro _ cU ⟨cV,rfl,aX,Y,cW⟩
 refine qr (mv rfl (mv rfl (mv rfl ?_)))
 obtain⟨cX,bS,bT⟩:=ob bQ
 refine a7z (t:=Q0) wn rfl underlying57 Q2 rfl rfl (aB.mono Y) bS fun cY cZ da bU=>?_
 obtain⟨db,bV,bW⟩:=ob bT
 refine lk b4A (R1 F aX.enter0 (aE.mono ((i.trans aa.le).trans Y)) bU bV) ?_
 rintro dc dd ⟨bX,rfl,ab⟩
 have ae:=(aX.c0 ab).t3
 refine mv rfl (bt bW (fun k aN=>?_) (fun k aN=>?_))
 ·refine lg k (i5 rfl) (lg k (q9 underlying57 rfl (aB.mono (Y.trans ab.le))) (lg k (j6 (ds:=[V3 l m o,V3 q s x]) B9 rfl m0 ae rfl rfl) (lg k (j6 (ds:=[V3 y B C,V3 D G H]) C4 rfl m1 ae rfl rfl) (lg k (j6 (ds:=[V6 d.2.2.1.Kind,sv d.2.2.1.Field,V3 R S T,V6 d.2.2.1.From,V6 d.2.2.1.To,V3 U V W]) B1 rfl m2 ae rfl rfl) ?_))))
  obtain⟨de,bY,bZ⟩:=ob aN
  refine A3 (wg rfl rfl k) rfl (A2 (vs:=[.agg #[V3 l m o,V3 q s x],.agg #[V3 y B C,V3 D G H],.agg #[V6 d.2.2.1.Kind,sv d.2.2.1.Field,V3 R S T,V6 d.2.2.1.From,V6 d.2.2.1.To,V3 U V W]]) b6z rfl) (U2 F ae.enter0 (b7.mono ((((f.le.trans i).trans aa.le).trans Y).trans ab.le) af) (b7.mono ((((f.le.trans i).trans aa.le).trans Y).trans ab.le) ag) (b7.mono ((((f.le.trans i).trans aa.le).trans Y).trans ab.le) ah) (b7.mono ((((f.le.trans i).trans aa.le).trans Y).trans ab.le) ai) ak am (b7.mono ((((f.le.trans i).trans aa.le).trans Y).trans ab.le) an) ao ap (b7.mono ((((f.le.trans i).trans aa.le).trans Y).trans ab.le) aq) (hG6.keep ae) hD bY) ?_
  rintro df dg ⟨dh,di,dj,ca,rfl,cb,cc⟩
  refine⟨_,rfl,?_⟩
  have cd:=(ae.c0 cb).t4
  refine lg k (q9 underlying46 rfl cc) (lg k (A9 rfl rfl) (lv (n9 rfl k rfl) (av rfl (nq (j9 ?_)))))
  cases oi bZ
  exact ey results7 ⟨ca,rfl,cd.s⟩
 iterate 8 refine lu k ?_
 refine lv (L8 rfl k rfl) (av rfl (nq (j9 ?_)))
 cases oi aN
 exact ey results7 ⟨bX,rfl,ae.s⟩
end Go.Proofs.YtnloenhmkdpgeaaGreatDoor
