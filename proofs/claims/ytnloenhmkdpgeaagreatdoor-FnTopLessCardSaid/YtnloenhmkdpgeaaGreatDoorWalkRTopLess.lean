/-
 Walks of the functions. Printed by gen.py.
-/
import Derived.Test.YtnloenhmkdpgeaaGreatDoorModelLTopLess
import Derived.Test.YtnloenhmkdpgeaaGreatDoorWalkA0
import Derived.Test.YtnloenhmkdpgeaaGreatDoorWalkA2
import Derived.Test.YtnloenhmkdpgeaaGreatDoorWalkA4
import Derived.Test.YtnloenhmkdpgeaaGreatDoorWalkFT
set_option linter.unusedVariables false
set_option linter.unusedSectionVars false
set_option maxRecDepth 100000
namespace Go.Proofs.YtnloenhmkdpgeaaGreatDoor
set_option maxHeartbeats 4000000
open Go Go.Fk Go.RowKit Tryz
variable (F:Nat){w:World}{K:F9}{Z:List Nat}{g1 g2 g3:Nat}{A B C D G H I J O R S T:Option Addr}{a b c d f i k l m n o p q s v x y aa ab ac ad ae af ag:Nat}
variable [dr:Dr]

theorem b0K {q0:List UInt8}{q1:List UInt8}{r:Bool}(hS:SH w K [] w K [])(bs:b7 tU8 K A a b q0)(bu:b7 tU8 K B c d q1)(hG10:a4i y6 1 f G8 w)(hD: ¬dr.D)(hm:a3j F q0 q1=some r):
  Calls prog 13 #[V3 A a b,V3 B c d] w (R_b w K r):=by
 rw [a3j] at hm
 refine ci func13 rfl ntmps13 (sr (lv (O6 rfl) (ns (o4 ?_))))
 obtain⟨bQ,bR,bS⟩:=ob hm
 refine l4 (IV w K [] K [(0,V3 A a b),(1,V3 B c d),(26,.bool bQ)] []) ?_ ?_
 ·refine j5 (mv rfl (lv (q9 underlying22 rfl bs) (lv (E7 rfl rfl) (mv rfl (bt bR (fun ae bc=>?_) (fun ae bc=>?_))))))
  ·refine lu ae (lu ae (lu ae (lv (J6 rfl ae rfl) (i8 ?_))))
   cases oi bc
   exact qd ⟨K,rfl,hS,kr⟩
  refine lg ae (i5 rfl) (lg ae (q9 underlying22 rfl bu) (lg ae (E7 rfl rfl) (lv (l9 rfl ae rfl) (i8 ?_))))
  cases oi bc
  exact qd ⟨K,rfl,hS,kr⟩
 rintro _ eS ⟨bT,rfl,bd,bv⟩
 refine l5 (D5 bS rfl (fun bU be=>?_) (fun bU be=>?_))
 ·refine sr (lv (r_t rfl) (nq (rr ?_)))
  cases oi be
  exact ey results13 ⟨bT,rfl,bd⟩
 refine j3 (qr (mv rfl ?_))
 obtain⟨i,bV,bW⟩:=ob be
 refine lk c1G (a0V F bd.enter0 (bs.mono bv) bV) ?_
 rintro eT eU ⟨s,x,y,C,D,G,H,I,J,O,R,S,U,V,W,X,Y,aa,eV,rfl,bx,aq,ar,au,aw,aK,aL,aM,aN,aO,aP,bf⟩
 have bX:=(bd.c0 bx).t5
 refine mv rfl (lv (y3 rfl rfl) (lv (y3 rfl rfl) (lv (y3 rfl rfl) (lv (y3 rfl rfl) (al B9 bX fun ax eW bY=>?_)))))
 have bZ:SH _ _ _ _ _ [s7 ax [V3 none 0 0,V3 none 0 0] 26,_,_,_,_,_]:=bY
 refine al C4 bZ fun ay eX ca=>?_
 have cb:SH _ _ _ _ _ [s7 ay [V3 none 0 0,V3 none 0 0] 30,_,_,_,_,_,_]:=ca
 refine al B1 cb fun bg eY cc=>?_
 have cd:SH _ _ _ _ _ [s7 bg [V6 0,sv [],V3 none 0 0,V6 0,V6 0,V3 none 0 0] 35,_,_,_,_,_,_,_]:=cc
 refine lw [V3 s x y,V3 C D G] B9 cd.f2 fun eZ ce=>(lw [V3 H I J,V3 O R S] C4 ce.f2 fun fb cf=>(lw [V6 i.2.2.1.Kind,sv i.2.2.1.Field,V3 U V W,V6 i.2.2.1.From,V6 i.2.2.1.To,V3 X Y aa] B1 cf.f2 fun fc bz=>(av rfl (nr (mv rfl ?_)))))
 obtain⟨o,cg,ch⟩:=ob bW
 refine lk c1G (a0V F bz.enter0 (bu.mono (bv.trans bx.le)) cg) ?_
 rintro fd fe ⟨cj,ck,cl,cm,cn,cp,cq,cr,ct,cu,cv,cw,aj,ak,am,an,ao,ap,fg,rfl,k,fh,fi,fj,fk,bA,bB,bC,bD,bE,bF,fm⟩
 have cx:SH _ _ _ _ _ [_,_,_,_,_,_,_,_,_,_,_,_,_]:=SH.call0 bz k
 refine mv rfl (lv (y3 rfl rfl) (lv (y3 rfl rfl) (lv (y3 rfl rfl) (lv (y3 rfl rfl) (al B9 cx fun cy fn cz=>?_)))))
 have cA:SH _ _ _ _ _ [s7 cy [V3 none 0 0,V3 none 0 0] 26,_,_,_,_,_,_,_,_,_,_,_,_,_]:=cz
 refine al C4 cA fun cB fo cC=>?_
 have cD:SH _ _ _ _ _ [s7 cB [V3 none 0 0,V3 none 0 0] 30,_,_,_,_,_,_,_,_,_,_,_,_,_,_]:=cC
 refine al B1 cD fun bh fp cE=>?_
 have cF:SH _ _ _ _ _ [s7 bh [V6 0,sv [],V3 none 0 0,V6 0,V6 0,V3 none 0 0] 35,_,_,_,_,_,_,_,_,_,_,_,_,_,_,_]:=cE
 refine lw [V3 cj ck cl,V3 cm cn cp] B9 cF.f2 fun fq cG=>(lw [V3 cq cr ct,V3 cu cv cw] C4 cG.f2 fun fr cH=>(lw [V6 o.2.2.1.Kind,sv o.2.2.1.Field,V3 aj ak am,V6 o.2.2.1.From,V6 o.2.2.1.To,V3 an ao ap] B1 cH.f2 fun fs aD=>(av rfl (nr (lv (j6 (ds:=[V3 s x y,V3 C D G]) B9 rfl m10 aD rfl rfl) (lv (j6 (ds:=[V3 H I J,V3 O R S]) C4 rfl m9 aD rfl rfl) (lv (j6 (ds:=[V6 i.2.2.1.Kind,sv i.2.2.1.Field,V3 U V W,V6 i.2.2.1.From,V6 i.2.2.1.To,V3 X Y aa]) B1 rfl m8 aD rfl rfl) (mv rfl ?_))))))))
 obtain⟨ft,cI,cJ⟩:=ob ch
 refine lk b6y (a0b F aD.enter0 (aq.mono k.le) (ar.mono k.le) (au.mono k.le) (aw.mono k.le) aK aL (aM.mono k.le) aN aO (aP.mono k.le) bf (hG10.keep aD) hD cI) ?_
 rintro fu fv ⟨cK,cL,cM,fw,rfl,l,bG⟩
 have bi:SH _ _ _ _ _ [_,_,_,_,_,_,_,_,_,_,_,_,_,_,_,_,_]:=SH.call0 aD l
 refine av rfl (nr (lv (j6 (ds:=[V6 i.2.2.1.Kind,sv i.2.2.1.Field,V3 U V W,V6 i.2.2.1.From,V6 i.2.2.1.To,V3 X Y aa]) B1 rfl m9 bi rfl rfl) (lv (j6 (ds:=[V6 o.2.2.1.Kind,sv o.2.2.1.Field,V3 aj ak am,V6 o.2.2.1.From,V6 o.2.2.1.To,V3 an ao ap]) B1 rfl m1 bi rfl rfl) ?_)))
 refine J2 (t:=F4) (n:=2) (pv:=[(0,.agg #[V6 i.2.2.1.Kind,sv i.2.2.1.Field,V3 U V W,V6 i.2.2.1.From,V6 i.2.2.1.To,V3 X Y aa]),(1,.agg #[V6 o.2.2.1.Kind,sv o.2.2.1.Field,V3 aj ak am,V6 o.2.2.1.From,V6 o.2.2.1.To,V3 an ao ap])]) (cs:=[V6 i.2.2.1.Kind,sv i.2.2.1.Field,V3 U V W,V6 i.2.2.1.From,V6 i.2.2.1.To,V3 X Y aa,V6 o.2.2.1.Kind,sv o.2.2.1.Field,V3 aj ak am,V6 o.2.2.1.From,V6 o.2.2.1.To,V3 an ao ap]) (xs:=[i.2.2.1,o.2.2.1]) wn rfl underlying33 B1 rfl rfl rfl (by kernel_rfl) rfl rfl (H5 (u:=.agg #[V6 i.2.2.1.Kind,sv i.2.2.1.Field,V3 U V W,V6 i.2.2.1.From,V6 i.2.2.1.To,V3 X Y aa]) (z:=i.2.2.1) (M4 ⟨U,V,W,X,Y,aa,rfl,aK,aL,(aM.mono (k.le.trans l.le)),aN,aO,(aP.mono (k.le.trans l.le))⟩) (H5 (u:=.agg #[V6 o.2.2.1.Kind,sv o.2.2.1.Field,V3 aj ak am,V6 o.2.2.1.From,V6 o.2.2.1.To,V3 an ao ap]) (z:=o.2.2.1) (M4 ⟨aj,ak,am,an,ao,ap,rfl,bA,bB,(bC.mono l.le),bD,bE,(bF.mono l.le)⟩) a1W)) bi ?_
 intro af fx cN m bH cO
 refine lv (C3 (cs:=#[V6 9,sv [],V3 none 0 0,V6 0,V6 0,V3 af 2 2]) a7c B1 rfl (by kernel_rfl)) (al B1 cO fun az fy cP=>?_)
 have cQ:SH _ _ _ _ _ [s7 az [V6 0,sv [],V3 none 0 0,V6 0,V6 0,V3 none 0 0] 35,_,_,_,_,_,_,_,_,_,_,_,_,_,_,_,_,_,_]:=cP
 refine ls [V6 9,sv [],V3 none 0 0,V6 0,V6 0,V3 af 2 2] (.agg #[V6 9,sv [],V3 none 0 0,V6 0,V6 0,V3 af 2 2]) B1 cQ fun fz aQ=>(ns (o4 ?_))
 obtain⟨cR,cS,cT⟩:=ob cJ
 refine l4 (IV w K [] cN [(5,pt ax),(6,pt ay),(7,pt bg),(8,V6 i.2.2.2),(11,pt bh),(13,V3 cK cL cM),(14,pt az),(68,.bool cR)] [s7 ax [V3 s x y,V3 C D G] 26,s7 ay [V3 H I J,V3 O R S] 30,s7 bg [V6 i.2.2.1.Kind,sv i.2.2.1.Field,V3 U V W,V6 i.2.2.1.From,V6 i.2.2.1.To,V3 X Y aa] 35,s7 bh [V6 o.2.2.1.Kind,sv o.2.2.1.Field,V3 aj ak am,V6 o.2.2.1.From,V6 o.2.2.1.To,V3 an ao ap] 35,s7 az [V6 9,sv [],V3 none 0 0,V6 0,V6 0,V3 af 2 2] 35]) ?_ ?_
 ·refine j5 (mv rfl (lv (j6 (ds:=[V3 s x y,V3 C D G]) B9 rfl (.tail _ (.tail _ (.tail _ (.tail _ (.tail _ (.tail _ (.tail _ (.tail _ (.tail _ (.tail _ (.tail _ (.tail _ (.tail _ (.head _)))))))))))))) aQ rfl rfl) (lv (j6 (ds:=[V3 H I J,V3 O R S]) C4 rfl m12 aQ rfl rfl) (lv (j6 (ds:=[V6 i.2.2.1.Kind,sv i.2.2.1.Field,V3 U V W,V6 i.2.2.1.From,V6 i.2.2.1.To,V3 X Y aa]) B1 rfl m11 aQ rfl rfl) (mv rfl ?_)))))
  obtain⟨fA,cU,cV⟩:=ob cS
  refine lk b6A (a0c F aQ.enter0 (aq.mono ((k.le.trans l.le).trans m)) (ar.mono ((k.le.trans l.le).trans m)) (au.mono ((k.le.trans l.le).trans m)) (aw.mono ((k.le.trans l.le).trans m)) aK aL (aM.mono ((k.le.trans l.le).trans m)) aN aO (aP.mono ((k.le.trans l.le).trans m)) bf cU) ?_
  rintro fB fC ⟨fD,fE,fF,fG,rfl,ad,cW⟩
  have bI:SH _ _ _ _ _ [_,_,_,_,_,_,_,_,_,_,_,_,_,_,_,_,_,_,_]:=SH.call0 aQ ad
  obtain⟨fH,cX,cY⟩:=ob cV
  refine lk b4A (R1 F bI.enter0 (bG.mono (m.trans ad.le)) cW cX) ?_
  rintro fI fJ ⟨cZ,rfl,ag⟩
  have aR:SH _ _ _ _ _ [_,_,_,_,_,_,_,_,_,_,_,_,_,_,_,_,_,_,_]:=SH.call0 bI ag
  refine lv (A4 rfl) (mv rfl (bt cY (fun ab bj=>?_) (fun ab bj=>?_)))
  ·refine lu ab (lu ab (lu ab (lu ab (lv (J6 rfl ab rfl) (mv rfl (lu rfl (lu rfl (lu rfl (lv (J6 rfl rfl rfl) ?_)))))))))
   refine i8 ?_
   cases oi bj
   have da:SH _ _ _ _ _ [_,_,_,_,_,_,_,_,_,_,_,_,_,_,_,_,_,_,_]:=SH.front (p:=[_,_,_,_,_,_,_,_,_,_,_]) aR.f3
   have db:SH _ _ _ _ _ [_,_,_,_,_,_,_,_,_,_,_,_,_,_,_,_,_,_,_]:=SH.front (p:=[_,_,_,_,_,_,_,_,_,_,_,_]) da
   have dc:SH _ _ _ _ _ [_,_,_,_,_,_,_,_,_,_,_,_,_,_,_,_,_,_,_]:=SH.front (p:=[_,_,_,_,_,_,_,_,_,_,_,_,_]) db
   exact qd ⟨cZ,rfl,dc.s,(ad.le.trans ag.le)⟩
  refine lg ab (j6 (ds:=[V3 s x y,V3 C D G]) B9 rfl (.tail _ (.tail _ (.tail _ (.tail _ (.tail _ (.tail _ (.tail _ (.tail _ (.tail _ (.tail _ (.tail _ (.tail _ (.tail _ (.head _)))))))))))))) aR rfl rfl) (lg ab (j6 (ds:=[V3 H I J,V3 O R S]) C4 rfl m12 aR rfl rfl) ?_)
  obtain⟨fK,dd,de⟩:=ob bj
  refine A3 (wg rfl rfl ab) rfl (A2 (vs:=[.agg #[V3 s x y,V3 C D G],.agg #[V3 H I J,V3 O R S]]) a9k rfl) (J1 F aR.enter0 (b7.mono ((((k.le.trans l.le).trans m).trans ad.le).trans ag.le) aq) (b7.mono ((((k.le.trans l.le).trans m).trans ad.le).trans ag.le) ar) (b7.mono ((((k.le.trans l.le).trans m).trans ad.le).trans ag.le) au) (b7.mono ((((k.le.trans l.le).trans m).trans ad.le).trans ag.le) aw) dd) ?_
  rintro fL fM ⟨df,rfl,aV⟩
  refine⟨_,rfl,?_⟩
  have aS:SH _ _ _ _ _ [_,_,_,_,_,_,_,_,_,_,_,_,_,_,_,_,_,_,_]:=SH.call0 aR aV
  refine lg ab (A4 rfl) (lv (l9 rfl ab rfl) (mv rfl (bt de (fun ah bk=>?_) (fun ah bk=>?_))))
  ·refine lu ah (lu ah (lu ah (lv (J6 rfl ah rfl) (i8 ?_))))
   cases oi bk
   have dg:SH _ _ _ _ _ [_,_,_,_,_,_,_,_,_,_,_,_,_,_,_,_,_,_,_]:=SH.front (p:=[_,_,_,_,_,_,_,_,_,_,_]) aS.f3
   have dh:SH _ _ _ _ _ [_,_,_,_,_,_,_,_,_,_,_,_,_,_,_,_,_,_,_]:=SH.front (p:=[_,_,_,_,_,_,_,_,_,_,_,_]) dg
   have di:SH _ _ _ _ _ [_,_,_,_,_,_,_,_,_,_,_,_,_,_,_,_,_,_,_]:=SH.front (p:=[_,_,_,_,_,_,_,_,_,_,_,_,_]) dh
   exact qd ⟨df,rfl,di.s,((ad.le.trans ag.le).trans aV.le)⟩
  refine lg ah (j6 (ds:=[V6 9,sv [],V3 none 0 0,V6 0,V6 0,V3 af 2 2]) B1 rfl m0 aS rfl rfl) ?_
  obtain⟨fN,dj,dk⟩:=ob bk
  refine A3 (wg rfl rfl ah) rfl (A2 (vs:=[.agg #[V6 9,sv [],V3 none 0 0,V6 0,V6 0,V3 af 2 2]]) b9U rfl) ((a0J F (q0:=(q7.mk (9:Int) ([]:r4) ([]:List r4) (0:Int) (0:Int) ([i.2.2.1,o.2.2.1]:List q7)))) aS.enter0 (by decide :i7 9) (by decide :([]:r4).length≤maxLen) (b7.nil _ _) I5 I5 (bH.mono ((ad.le.trans ag.le).trans aV.le)) (hG10.keep aS) dj) ?_
  rintro fO fP ⟨dl,rfl,bJ⟩
  refine⟨_,rfl,?_⟩
  have dm:SH _ _ _ _ _ [_,_,_,_,_,_,_,_,_,_,_,_,_,_,_,_,_,_,_]:=SH.call0 aS bJ
  refine lg ah (A4 rfl) (lv (l9 rfl ah rfl) (i8 ?_))
  cases oi dk
  have dn:SH _ _ _ _ _ [_,_,_,_,_,_,_,_,_,_,_,_,_,_,_,_,_,_,_]:=SH.front (p:=[_,_,_,_,_,_,_,_,_,_,_]) dm.f3
  have dp:SH _ _ _ _ _ [_,_,_,_,_,_,_,_,_,_,_,_,_,_,_,_,_,_,_]:=SH.front (p:=[_,_,_,_,_,_,_,_,_,_,_,_]) dn
  have dq:SH _ _ _ _ _ [_,_,_,_,_,_,_,_,_,_,_,_,_,_,_,_,_,_,_]:=SH.front (p:=[_,_,_,_,_,_,_,_,_,_,_,_,_]) dp
  exact qd ⟨dl,rfl,dq.s,(((ad.le.trans ag.le).trans aV.le).trans bJ.le)⟩
 rintro _ fQ ⟨fR,rfl,ac,q⟩
 refine l5 (D5 cT rfl (fun dt bl=>?_) (fun dt bl=>?_))
 ·refine sr (mv rfl (lv (j6 (ds:=[V3 s x y,V3 C D G]) B9 rfl m0 ac rfl rfl) (lv (j6 (ds:=[V3 H I J,V3 O R S]) C4 rfl m1 ac rfl rfl) (lv (j6 (ds:=[V6 i.2.2.1.Kind,sv i.2.2.1.Field,V3 U V W,V6 i.2.2.1.From,V6 i.2.2.1.To,V3 X Y aa]) B1 rfl m2 ac rfl rfl) (mv rfl ?_)))))
  obtain⟨fS,du,dv⟩:=ob bl
  refine lk b6A (a0c F ac.enter0 (b7.mono (((k.le.trans l.le).trans m).trans q) aq) (b7.mono (((k.le.trans l.le).trans m).trans q) ar) (b7.mono (((k.le.trans l.le).trans m).trans q) au) (b7.mono (((k.le.trans l.le).trans m).trans q) aw) aK aL (b7.mono (((k.le.trans l.le).trans m).trans q) aM) aN aO (b7.mono (((k.le.trans l.le).trans m).trans q) aP) bf du) ?_
  rintro fT fU ⟨fV,fW,fX,fY,rfl,bK,dw⟩
  have bL:=(ac.c0 bK).t5
  obtain⟨fZ,dx,dy⟩:=ob dv
  refine lk b4A (R1 F bL.enter0 (bG.mono ((m.trans q).trans bK.le)) dw dx) ?_
  rintro ga gb ⟨dz,rfl,dA⟩
  have dB:=(bL.c0 dA).t5
  refine av rfl (nq (rr ?_))
  cases oi dy
  exact ey results13 ⟨dz,rfl,dB.s⟩
 refine j3 (qr (lv (j6 (ds:=[V3 s x y,V3 C D G]) B9 rfl m0 ac rfl rfl) (lv (j6 (ds:=[V3 H I J,V3 O R S]) C4 rfl m1 ac rfl rfl) (lv (j6 (ds:=[V6 o.2.2.1.Kind,sv o.2.2.1.Field,V3 aj ak am,V6 o.2.2.1.From,V6 o.2.2.1.To,V3 an ao ap]) B1 rfl m3 ac rfl rfl) ?_))))
 obtain⟨gc,dC,dD⟩:=ob bl
 refine lk b6z (U2 F ac.enter0 (b7.mono (((k.le.trans l.le).trans m).trans q) aq) (b7.mono (((k.le.trans l.le).trans m).trans q) ar) (b7.mono (((k.le.trans l.le).trans m).trans q) au) (b7.mono (((k.le.trans l.le).trans m).trans q) aw) bA bB (bC.mono ((l.le.trans m).trans q)) bD bE (bF.mono ((l.le.trans m).trans q)) (hG10.keep ac) hD dC) ?_
 rintro gd ge ⟨dE,dF,dG,gg,rfl,T,dH⟩
 have aE:=(ac.c0 T).t6
 refine av rfl (nr (lv (j6 (ds:=[V3 s x y,V3 C D G]) B9 rfl m1 aE rfl rfl) (lv (j6 (ds:=[V3 H I J,V3 O R S]) C4 rfl m2 aE rfl rfl) (lv (j6 (ds:=[V6 i.2.2.1.Kind,sv i.2.2.1.Field,V3 U V W,V6 i.2.2.1.From,V6 i.2.2.1.To,V3 X Y aa]) B1 rfl m3 aE rfl rfl) ?_))))
 obtain⟨gj,dI,dJ⟩:=ob dD
 refine lk b6y (a0b F aE.enter0 (b7.mono ((((k.le.trans l.le).trans m).trans q).trans T.le) aq) (b7.mono ((((k.le.trans l.le).trans m).trans q).trans T.le) ar) (b7.mono ((((k.le.trans l.le).trans m).trans q).trans T.le) au) (b7.mono ((((k.le.trans l.le).trans m).trans q).trans T.le) aw) aK aL (b7.mono ((((k.le.trans l.le).trans m).trans q).trans T.le) aM) aN aO (b7.mono ((((k.le.trans l.le).trans m).trans q).trans T.le) aP) (by decide :i7 16) (hG10.keep aE) hD dI) ?_
 rintro gk gl ⟨dK,dL,dM,gm,rfl,aA,bm⟩
 have dN:=(aE.c0 aA).t7
 refine av rfl (nr (b0 Q0 underlying57 Q2 dN fun dO go bn ai dP dQ=>(av rfl (O7 (lv (N2 rfl) (nq ?_))))))
 obtain⟨dR,dS,dT⟩:=ob dJ
 refine l4 (fun E' w'=>∃aW aX aY aZ,E'=[(5,pt ax),(6,pt ay),(14,pt az),(17,V3 aW aX aY)]∧SH w K [] w' aZ [s7 ax [V3 s x y,V3 C D G] 26,s7 ay [V3 H I J,V3 O R S] 30,s7 az [V6 9,sv [],V3 none 0 0,V6 0,V6 0,V3 af 2 2] 35,tail (V3 aW aX aY) 71 2]∧M0 bn aZ∧b7 Q0 aZ aW aX aY dR) ?_ ?_
 ·refine j7 ?_
  obtain⟨gp,dU,dV⟩:=ob dS
  have dW:=dQ.f7.f5.f5.sb (sk (sk (sk (sk (sd (sd (sd (sd sz))))))))
  refine qw (fun (ba:(List E3)×Int) E' w'=>∃aF aG aH aT,E'=[(5,pt ax),(6,pt ay),(14,pt az),(15,V3 dE dF dG),(16,V3 dK dL dM),(17,V3 aF aG aH),(18,V6 ba.2)]∧SH w K [] w' aT [s7 ax [V3 s x y,V3 C D G] 26,s7 ay [V3 H I J,V3 O R S] 30,s7 az [V6 9,sv [],V3 none 0 0,V6 0,V6 0,V3 af 2 2] 35,tail (V3 aF aG aH) 71 2]∧M0 bn aT∧b7 Q0 aT aF aG aH ba.1∧i7 ba.2) dU ⟨dO,0,0,bn,rfl,dW,kr,dP,I5⟩ ?_
  rintro ba _ gq gr dX dY ⟨aF,aG,aH,aT,rfl,bb,aB,bo,gv⟩
  refine o4 (sr (mv rfl (mv rfl (lv (q9 underlying57 rfl (bm.mono (ai.trans aB))) (lv (u7 rfl rfl) (nq (D5 dX rfl (fun dZ bp=>?_) (fun dZ bp=>?_))))))))
  ·refine j3 (qs (j7 (sr (mv rfl (mv rfl (mv rfl ?_))))))
   obtain⟨bM,ea,eb⟩:=ob bp
   refine li underlying57 Q2 (bm.mono (ai.trans aB)) ea fun ec ed gw ee ef=>?_
   obtain⟨rfl,eg,gx⟩:=ee
   have eh:F1 _ ec ed [V6 bM.Doc,V6 bM.Points]:=ef
   refine fa a4N rfl (lv (y9 E6 rfl bb (eh 0 _ rfl)) ?_)
   obtain⟨gy,ei,ej⟩:=ob eb
   refine lk c6w (b0L F bb.enter0 (dH.mono ((aA.le.trans ai).trans aB)) eg ei) ?_
   rintro gz gA ⟨ek,rfl,aI⟩
   have bq:=(bb.c0 aI).t4
   refine lv (A4 rfl) (nq (D5 ej rfl (fun el br=>?_) (fun el br=>?_)))
   ·refine j5 (mv rfl (mv rfl (mv rfl ?_)))
    obtain⟨aC,em,en⟩:=ob br
    refine li underlying57 Q2 (bm.mono ((ai.trans aB).trans aI.le)) em fun eo ep gB eq es=>?_
    obtain⟨rfl,et,eu⟩:=eq
    have ev:F1 _ eo ep [V6 aC.Doc,V6 aC.Points]:=es
    refine lv (F3 Q2 rfl bq ev rfl) (lb Q0 (.agg #[V6 aC.Doc,V6 aC.Points]) [V6 aC.Doc,V6 aC.Points] aC underlying57 Q2 ⟨rfl,et,eu⟩ bq fun gC gD gE bN ew ex=>?_)
    obtain⟨gF,eA,eB⟩:=ob en
    refine lp underlying57 Q2 (bo.mono (aI.le.trans bN)) ew eA ex.f4 fun eC eD eE gG eF eG eH eI=>(av rfl (nb (l5 (j5 (mv rfl (lv (y7 rfl rfl) (av rfl (i8 ?_))))))))
    cases oi eB
    exact qd ⟨_,rfl,eC,eD,eE,eF,rfl,eI.f4.f4.f4.s,(((aB.trans aI.le).trans bN).trans eG),eH,(u0 _)⟩
   refine j3 (x8 (l5 (j5 (mv rfl (lv (y7 rfl rfl) (av rfl (i8 ?_)))))))
   cases oi br
   exact qd ⟨_,rfl,aF,aG,aH,ek,rfl,bq,(aB.trans aI.le),(bo.mono aI.le),(u0 _)⟩
  refine y4 (g8 (g8 ?_))
  cases oi bp
  cases dY _ rfl
  refine l6 ?_
  cases oi dV
  exact qd ⟨aF,aG,aH,aT,rfl,bb,aB,bo⟩
 rintro _ gH ⟨aW,aX,aY,aZ,rfl,aJ,aU,eJ⟩
 refine qr (lv (j6 (ds:=[V3 s x y,V3 C D G]) B9 rfl m0 aJ rfl rfl) (lv (j6 (ds:=[V3 H I J,V3 O R S]) C4 rfl m1 aJ rfl rfl) (lv (j6 (ds:=[V6 9,sv [],V3 none 0 0,V6 0,V6 0,V3 af 2 2]) B1 rfl m2 aJ rfl rfl) ?_)))
 obtain⟨gI,eK,eL⟩:=ob dT
 refine lk b6y ((a0b F (q2:=(q7.mk (9:Int) ([]:r4) ([]:List r4) (0:Int) (0:Int) ([i.2.2.1,o.2.2.1]:List q7)))) aJ.enter0 (b7.mono (((((((k.le.trans l.le).trans m).trans q).trans T.le).trans aA.le).trans ai).trans aU) aq) (b7.mono (((((((k.le.trans l.le).trans m).trans q).trans T.le).trans aA.le).trans ai).trans aU) ar) (b7.mono (((((((k.le.trans l.le).trans m).trans q).trans T.le).trans aA.le).trans ai).trans aU) au) (b7.mono (((((((k.le.trans l.le).trans m).trans q).trans T.le).trans aA.le).trans ai).trans aU) aw) (by decide :i7 9) (by decide :([]:r4).length≤maxLen) (b7.nil _ _) I5 I5 (b7.mono ((((q.trans T.le).trans aA.le).trans ai).trans aU) bH) (by decide :i7 16) (hG10.keep aJ) hD eK) ?_
 rintro gJ gK ⟨gL,gM,gN,gO,rfl,bO,eM⟩
 have bP:=(aJ.c0 bO).t5
 refine mv rfl ?_
 obtain⟨gP,eN,eO⟩:=ob eL
 refine lk b4A (R1 F bP.enter0 eM (eJ.mono bO.le) eN) ?_
 rintro gQ gR ⟨eP,rfl,eQ⟩
 have eR:=(bP.c0 eQ).t5
 refine av rfl (nq (j9 ?_))
 cases oi eO
 exact ey results13 ⟨eP,rfl,eR.s⟩
end Go.Proofs.YtnloenhmkdpgeaaGreatDoor
