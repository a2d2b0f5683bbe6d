/-
 Walks of the functions. Printed by gen.py.
-/
import Derived.Test.YtepcfgnicnibnaaGreatDoorModelLPageOf
import Derived.Test.YtepcfgnicnibnaaGreatDoorWalkA4
import Derived.Test.YtepcfgnicnibnaaGreatDoorWalkFT
set_option linter.unusedVariables false
set_option linter.unusedSectionVars false
set_option maxRecDepth 100000
namespace Go.Proofs.YtepcfgnicnibnaaGreatDoor
set_option maxHeartbeats 4000000
open Go Go.Fk Go.RowKit Tryz
variable (F:Nat){w:World}{K:F0}{Z:List Nat}{g1 g2 g3:Nat}{A B C D G H I J O R S T:Option Addr}{a b c d f i k l m n o p q s v x y aa ab ac ad ae af ag:Nat}
variable [dr:Dr]

theorem b0O {q0:List UInt8}{r:Bool}(hS:SH w K [] w K [])(bh:b7 tU8 K A a b q0)(hG6:a5U C5 0 c L3 w)(hD: ¬dr.D)(hm:a28 F q0=some r):
  Calls prog 3 #[V3 A a b] w (R_b w K r):=by
 rw [a28] at hm
 refine ci func3 rfl ntmps3 (sr (lv (P2 rfl) (P6 (mv rfl (lv (q7 underlying22 rfl bh) (lv (F9 rfl rfl) (nq (P1 rfl (fun aE=>?_) (fun aE=>?_)))))))))
 ·have h8:=Z8 aE hm
  refine sr (lv (r_t rfl) (nq (rr ?_)))
  cases oi h8
  exact ey results3 ⟨K,rfl,hS⟩
 have h8:=Z7 aE hm
 refine j5 (qr (mv rfl ?_))
 obtain⟨d,bv,bx⟩:=ob h8
 refine lk co9 (a5v F hS.enter0 bh bv) ?_
 rintro ew ex ⟨y,B,C,D,G,H,I,J,O,R,S,T,aa,ab,ac,ad,ae,af,eA,rfl,bz,au,aw,ax,ay,aG,aH,aI,aJ,aK,aL,bi⟩
 have bA:=(hS.c0 bz).t5
 refine mv rfl (lv (B2 rfl rfl) (lv (B2 rfl rfl) (lv (B2 rfl rfl) (lv (B2 rfl rfl) (al E2 bA fun W eB bB=>?_)))))
 have bC:SH _ _ _ _ _ [u9 W [V3 none 0 0,V3 none 0 0] 26,_,_,_,_,_]:=bB
 refine al F2 bC fun X eC bD=>?_
 have bE:SH _ _ _ _ _ [u9 X [V3 none 0 0,V3 none 0 0] 30,_,_,_,_,_,_]:=bD
 refine al C6 bE fun Y eD bF=>?_
 have bG:SH _ _ _ _ _ [u9 Y [V6 0,sv [],V3 none 0 0,V6 0,V6 0,V3 none 0 0] 33,_,_,_,_,_,_,_]:=bF
 refine lw [V3 y B C,V3 D G H] E2 bG.f2 fun eE bH=>(lw [V3 I J O,V3 R S T] F2 bH.f2 fun eF bI=>(lw [V6 d.2.2.1.Kind,sv d.2.2.1.Field,V3 aa ab ac,V6 d.2.2.1.From,V6 d.2.2.1.To,V3 ad ae af] C6 bI.f2 fun eG ak=>(av rfl (nr (lv (n8 (ds:=[V3 y B C,V3 D G H]) E2 rfl m2 ak rfl rfl) (lv (n8 (ds:=[V3 I J O,V3 R S T]) F2 rfl m1 ak rfl rfl) (lv (n8 (ds:=[V6 d.2.2.1.Kind,sv d.2.2.1.Field,V3 aa ab ac,V6 d.2.2.1.From,V6 d.2.2.1.To,V3 ad ae af]) C6 rfl m0 ak rfl rfl) (mv rfl ?_))))))))
 obtain⟨eH,bJ,bK⟩:=ob bx
 refine lk c5E (a7N F ak.enter0 au aw ax ay aG aH aI aJ aK aL bi (hG6.keep ak) hD bJ) ?_
 rintro eI eJ ⟨aM,aN,aO,eK,rfl,i,U⟩
 have ap:=(ak.c0 i).t9
 refine av rfl (nr (lv (n8 (ds:=[V3 y B C,V3 D G H]) E2 rfl m3 ap rfl rfl) (lv (n8 (ds:=[V3 I J O,V3 R S T]) F2 rfl m2 ap rfl rfl) (lv (n8 (ds:=[V6 d.2.2.1.Kind,sv d.2.2.1.Field,V3 aa ab ac,V6 d.2.2.1.From,V6 d.2.2.1.To,V3 ad ae af]) C6 rfl m1 ap rfl rfl) (mv rfl ?_)))))
 obtain⟨eL,bL,bM⟩:=ob bK
 refine lk c5L (a7S F ap.enter0 (au.mono i.le) (aw.mono i.le) (ax.mono i.le) (ay.mono i.le) aG aH (aI.mono i.le) aJ aK (aL.mono i.le) bi bL) ?_
 rintro eM eN ⟨aP,aQ,aR,bj,rfl,f,aS⟩
 have aq:=(ap.c0 f).t10
 refine av rfl (ns (p9 ?_))
 obtain⟨bN,bO,bP⟩:=ob bM
 refine l6 (IV w K [] bj [(3,pt W),(4,pt X),(5,pt Y),(6,V6 d.2.2.2),(7,V3 aM aN aO),(8,V3 aP aQ aR),(45,.bool bN)] [u9 W [V3 y B C,V3 D G H] 26,u9 X [V3 I J O,V3 R S T] 30,u9 Y [V6 d.2.2.1.Kind,sv d.2.2.1.Field,V3 aa ab ac,V6 d.2.2.1.From,V6 d.2.2.1.To,V3 ad ae af] 33]) ?_ ?_
 ·refine j3 (mv rfl (lv (q7 (t:=(G0 E8)) underlying36 rfl (U.mono f.le)) (mv rfl (lv (q7 (t:=(G0 E8)) underlying36 rfl aS) (lv (S7 rfl rfl) (mv rfl (bt bO (fun o aT=>?_) (fun o aT=>?_))))))))
  ·refine lu o (lu o (lu o (lu o (lv (L8 rfl o rfl) (mv rfl (lu rfl (lu rfl (lv (L8 rfl rfl rfl) (i8 ?_)))))))))
   cases oi aT
   exact qd ⟨bj,rfl,aq.f2.f3.f4.s,kr⟩
  refine lg o (n8 (ds:=[V3 y B C,V3 D G H]) E2 rfl m4 aq rfl rfl) (lg o (n8 (ds:=[V3 I J O,V3 R S T]) F2 rfl m3 aq rfl rfl) ?_)
  obtain⟨eO,bQ,bR⟩:=ob aT
  refine A0 (wg rfl rfl o) rfl (z7 (vs:=[.agg #[V3 y B C,V3 D G H],.agg #[V3 I J O,V3 R S T]]) c1s rfl) (a2Z F aq.enter0 (au.mono (i.le.trans f.le)) (aw.mono (i.le.trans f.le)) (ax.mono (i.le.trans f.le)) (ay.mono (i.le.trans f.le)) bQ) ?_
  rintro eP eQ ⟨bk,rfl,aU⟩
  refine⟨_,rfl,?_⟩
  have bl:=(aq.c0 aU).t10
  refine lg o (A4 rfl) (lv (o4 rfl o rfl) (mv rfl (bt bR (fun ag aV=>?_) (fun ag aV=>?_))))
  ·refine lu ag (lu ag (lv (L8 rfl ag rfl) (i8 ?_)))
   cases oi aV
   exact qd ⟨bk,rfl,bl.f2.f3.f4.s,aU.le⟩
  refine lg ag (i5 rfl) (lg ag (s7 rfl rfl) (lv (o4 rfl ag rfl) (i8 ?_)))
  cases oi aV
  exact qd ⟨bk,rfl,bl.f2.f3.f4.s,aU.le⟩
 rintro _ eR ⟨bS,rfl,bm,k⟩
 refine l4 (D4 bP rfl (fun bT aW=>?_) (fun bT aW=>?_))
 ·refine sr (mv rfl (lv (q7 (t:=(G0 E8)) underlying36 rfl (U.mono (f.le.trans k))) (mv rfl (lv (q7 (t:=(G0 E8)) underlying36 rfl (aS.mono k)) (lv (A6 rfl rfl) (av rfl (nq (rr ?_))))))))
  cases oi aW
  exact ey results3 ⟨bS,rfl,bm.s⟩
 refine j5 (qr (b0 E8 underlying39 M6 bm fun bU eS aX l bV bW=>(av rfl (P6 (lv (N4 rfl) (nq ?_))))))
 obtain⟨bX,bY,az⟩:=ob aW
 refine l6 (fun E' w'=>∃aY aA aB aC aD,bX= .inl aY∧E'=[(3,pt W),(4,pt X),(5,pt Y),(9,V3 aA aB aC)]∧SH w K [] w' aD [u9 W [V3 y B C,V3 D G H] 26,u9 X [V3 I J O,V3 R S T] 30,u9 Y [V6 d.2.2.1.Kind,sv d.2.2.1.Field,V3 aa ab ac,V6 d.2.2.1.From,V6 d.2.2.1.To,V3 ad ae af] 33,tail (V3 aA aB aC) 45 2]∧I9 aX aD∧b7 E8 aD aA aB aC aY) ?_ ?_
 ·refine j7 ?_
  obtain⟨eT,bZ,bn⟩:=ob bY
  refine qw (fun (ar:(List B0)×Int) E' w'=>∃ah ai aj am,E'=[(3,pt W),(4,pt X),(5,pt Y),(6,V6 d.2.2.2),(7,V3 aM aN aO),(8,V3 aP aQ aR),(9,V3 ah ai aj),(10,V6 ar.2)]∧SH w K [] w' am [u9 W [V3 y B C,V3 D G H] 26,u9 X [V3 I J O,V3 R S T] 30,u9 Y [V6 d.2.2.1.Kind,sv d.2.2.1.Field,V3 aa ab ac,V6 d.2.2.1.From,V6 d.2.2.1.To,V3 ad ae af] 33,tail (V3 ah ai aj) 45 2]∧I9 aX am∧b7 E8 am ah ai aj ar.1∧i7 ar.2) bZ ⟨bU,0,0,aX,rfl,bW.f3.f3.f3,kr,bV,M1⟩ ?_
  rintro ar _ eU eV ca bo ⟨ah,ai,aj,am,rfl,bp,q,bq,eW⟩
  refine p9 (sr (mv rfl (mv rfl (lv (q7 (t:=(G0 E8)) underlying36 rfl (b7.mono (((f.le.trans k).trans l).trans q) U)) (lv (s7 rfl rfl) (nq (D4 ca rfl (fun cb aZ=>?_) (fun cb aZ=>?_))))))))
  ·refine j5 (qs (j7 (p9 (p9 ?_))))
   obtain⟨cc,cd,ce⟩:=ob aZ
   refine l6 (IV w K [] am [(3,pt W),(4,pt X),(5,pt Y),(6,V6 d.2.2.2),(7,V3 aM aN aO),(8,V3 aP aQ aR),(9,V3 ah ai aj),(10,V6 ar.2),(100,.bool cc)] [u9 W [V3 y B C,V3 D G H] 26,u9 X [V3 I J O,V3 R S T] 30,u9 Y [V6 d.2.2.1.Kind,sv d.2.2.1.Field,V3 aa ab ac,V6 d.2.2.1.From,V6 d.2.2.1.To,V3 ad ae af] 33,tail (V3 ah ai aj) 45 2]) ?_ ?_
   ·refine E1 mixed (by kernel_rfl) bp (km rfl (km rfl ?_))
    obtain⟨eX,cf,cg⟩:=ob cd
    refine ki underlying36 a3W (b7.mono (((f.le.trans k).trans l).trans q) U) cf fun ch cj eY ck cl=>?_
    obtain⟨cm,cn,cp,rfl,cq⟩:=ck
    have cr:E9 _ ch cj [V3 cm cn cp]:=cl
    refine kh (B6 a3W rfl (cr 0 _ rfl)) (km rfl (km rfl ?_))
    obtain⟨eZ,cs,ct⟩:=ob cg
    refine ki underlying36 a3W (aS.mono ((k.trans l).trans q)) cs fun cu cv fb cw cx=>?_
    obtain⟨cy,cz,cA,rfl,cB⟩:=cw
    have cC:E9 _ cu cv [V3 cy cz cA]:=cx
    refine kh (B6 a3W rfl (cC 0 _ rfl)) ?_
    obtain⟨fc,cD,cE⟩:=ob ct
    refine kc b72 (fun _ _ cF br=>(Y5 F) cF.enter0 (cq.mono br) (cB.mono br) cD) (kv (A4 rfl) (km rfl (bt cE (fun V ba=>?_) (fun V ba=>?_))))
    ·iterate 6 refine kn V ?_
     refine kv (L8 rfl V rfl) (km rfl ?_)
     iterate 6 refine qv rfl rfl rfl rfl ?_
     iterate 7 refine ku ?_
     refine qv rfl rfl rfl rfl (kv (L8 rfl rfl rfl) (km rfl ?_))
     iterate 7 refine qv rfl rfl rfl rfl ?_
     refine kv (L8 rfl rfl rfl) (B7 ?_)
     rintro fd ⟨cG,cH,cI⟩
     cases oi ba
     exact qd ⟨cG,rfl,cH,cI⟩
    refine kg V (i5 rfl) (kg V (i5 rfl) ?_)
    obtain⟨fe,cJ,cK⟩:=ob ba
    refine D2 (t:=(G0 E8)) (wg rfl rfl V) rfl underlying36 a3W rfl rfl (b7.mono (((f.le.trans k).trans l).trans q) U) cJ fun cL cM fg cN cO=>?_
    obtain⟨cP,cQ,cR,rfl,cS⟩:=cN
    have cT:E9 _ cL cM [V3 cP cQ cR]:=cO
    refine kgh V (B6 a3W rfl (cT 0 _ rfl)) (kg V (q7 underlying39 rfl cS) (kg V (A6 rfl rfl) (kv (o4 rfl V rfl) (km rfl (bt cK (fun m bb=>?_) (fun m bb=>?_))))))
    ·iterate 6 refine kn m ?_
     iterate 7 refine ku ?_
     refine kn m (kv (L8 rfl m rfl) (km rfl ?_))
     iterate 7 refine qv rfl rfl rfl rfl ?_
     refine kv (L8 rfl rfl rfl) (B7 ?_)
     rintro fh ⟨cU,cV,cW⟩
     cases oi bb
     exact qd ⟨cU,rfl,cV,cW⟩
    refine kg m (i5 rfl) (kg m (i5 rfl) (kg m (q7 (t:=(G0 E8)) underlying36 rfl (b7.mono (((f.le.trans k).trans l).trans q) U)) (kg m (H2 rfl rfl) (kg m (s7 rfl rfl) (kg m (i5 rfl) (bt bb (fun s bc=>?_) (fun s bc=>?_)))))))
    ·refine kg s (i5 rfl) (kg s (i5 rfl) ?_)
     obtain⟨fi,cX,cY⟩:=ob bc
     refine D2 (t:=(G0 E8)) (wg rfl rfl s) rfl underlying36 a3W rfl rfl (b7.mono (((f.le.trans k).trans l).trans q) U) cX fun cZ da fj db dc=>?_
     obtain⟨dd,de,df,rfl,dg⟩:=db
     have dh:E9 _ cZ da [V3 dd de df]:=dc
     refine kgh s (B6 a3W rfl (dh 0 _ rfl)) (kg s (q7 underlying39 rfl dg) (kg s (i5 rfl) (kg s (S7 rfl rfl) (kg m (o0 rfl s rfl) (kv (o4 rfl m rfl) (km rfl (bt cY (fun x bd=>?_) (fun x bd=>?_))))))))
     ·iterate 7 refine kn x ?_
      refine kv (L8 rfl x rfl) (B7 ?_)
      rintro fk ⟨di,dj,dk⟩
      cases oi bd
      exact qd ⟨di,rfl,dj,dk⟩
     refine kg x (i5 rfl) (kg x (i5 rfl) ?_)
     obtain⟨fm,dl,dm⟩:=ob bd
     refine D2 (t:=(G0 E8)) (wg rfl rfl x) rfl underlying36 a3W rfl rfl (b7.mono (((f.le.trans k).trans l).trans q) U) dl fun dn dp fn dq dt=>?_
     obtain⟨du,dv,dw,rfl,dx⟩:=dq
     have dy:E9 _ dn dp [V3 du dv dw]:=dt
     refine kgh x (B6 a3W rfl (dy 0 _ rfl)) (kg x (q7 underlying39 rfl dx) (kg x (i5 rfl) (kg x (F9 rfl rfl) (kv (o4 rfl x rfl) (B7 ?_)))))
     rintro fo ⟨dz,dA,dB⟩
     cases oi dm
     exact qd ⟨dz,rfl,dA,dB⟩
    iterate 7 refine kn s ?_
    refine kg m (J6 rfl s rfl) (kv (o4 rfl m rfl) (km rfl (kg rfl (i5 rfl) (kg rfl (i5 rfl) ?_))))
    obtain⟨fp,dC,dD⟩:=ob bc
    refine D2 (t:=(G0 E8)) (wg rfl rfl rfl) rfl underlying36 a3W rfl rfl (b7.mono (((f.le.trans k).trans l).trans q) U) dC fun dE dF fq dG dH=>?_
    obtain⟨dI,dJ,dK,rfl,dL⟩:=dG
    have dM:E9 _ dE dF [V3 dI dJ dK]:=dH
    refine kgh rfl (B6 a3W rfl (dM 0 _ rfl)) (kg rfl (q7 underlying39 rfl dL) (kg rfl (i5 rfl) (kg rfl (F9 rfl rfl) (kv (o4 rfl rfl rfl) (B7 ?_)))))
    rintro fr ⟨dN,dO,dP⟩
    cases oi dD
    exact qd ⟨dN,rfl,dO,dP⟩
   rintro _ fs ⟨dQ,rfl,be,bf⟩
   refine l4 (D4 ce rfl (fun dR bg=>?_) (fun dR bg=>?_))
   ·refine sr (lv (P2 rfl) (nq (rr (j6 (g8 (g8 ?_))))))
    cases oi bg
    cases bo _ rfl
    refine j6 (g8 ?_)
    cases oi bn
    refine g8 ?_
    cases oi az
    exact ey results3 ⟨dQ,rfl,be.s⟩
   refine j5 (l4 (j3 (mv rfl (mv rfl (mv rfl ?_)))))
   obtain⟨ft,dS,dT⟩:=ob bg
   refine li underlying36 a3W (b7.mono ((((f.le.trans k).trans l).trans q).trans bf) U) dS fun dU dV fu dW dX=>?_
   obtain⟨dY,dZ,ea,rfl,eb⟩:=dW
   have ec:E9 _ dU dV [V3 dY dZ ea]:=dX
   refine lv (y7 a3W rfl be (ec 0 _ rfl)) ?_
   obtain⟨fv,ed,ee⟩:=ob dT
   refine lp underlying39 M6 (bq.mono bf) eb ed be.f3 fun ef eg eh fw ei ej ek el=>(av rfl (nb (l4 (j3 (mv rfl (lv (y4 rfl rfl) (av rfl (i8 ?_))))))))
   cases oi ee
   exact qd ⟨_,rfl,ef,eg,eh,ei,rfl,el.f3.f3.f3,((q.trans bf).trans ej),ek,(s6 _)⟩
  refine w8 (g6 (g6 ?_))
  cases oi aZ
  cases bo _ rfl
  refine l5 ?_
  cases oi bn
  exact qd ⟨_,ah,ai,aj,am,rfl,rfl,bp,q,bq⟩
 rintro _ fx ⟨aY,aA,aB,aC,aD,rfl,rfl,an,ao,em⟩
 have az:=F6 az
 refine qr (mv rfl (lv (n8 (ds:=[V3 y B C,V3 D G H]) E2 rfl m0 an rfl rfl) (lv (n8 (ds:=[V3 I J O,V3 R S T]) F2 rfl m1 an rfl rfl) (lv (n8 (ds:=[V6 d.2.2.1.Kind,sv d.2.2.1.Field,V3 aa ab ac,V6 d.2.2.1.From,V6 d.2.2.1.To,V3 ad ae af]) C6 rfl m2 an rfl rfl) ?_))))
 obtain⟨fy,en,eo⟩:=ob az
 refine lk c4J (a57 F an.enter0 (b7.mono ((((i.le.trans f.le).trans k).trans l).trans ao) au) (b7.mono ((((i.le.trans f.le).trans k).trans l).trans ao) aw) (b7.mono ((((i.le.trans f.le).trans k).trans l).trans ao) ax) (b7.mono ((((i.le.trans f.le).trans k).trans l).trans ao) ay) aG aH (b7.mono ((((i.le.trans f.le).trans k).trans l).trans ao) aI) aJ aK (b7.mono ((((i.le.trans f.le).trans k).trans l).trans ao) aL) (by decide :i7 16) (hG6.keep an) hD en) ?_
 rintro fz fA ⟨fB,fC,fD,fE,rfl,bs,ep⟩
 have bu:=(an.c0 bs).t5
 obtain⟨fF,eq,es⟩:=ob eo
 refine lk b72 (Y5 F bu.enter0 (em.mono bs.le) ep eq) ?_
 rintro fG fH ⟨et,rfl,eu⟩
 have ev:=(bu.c0 eu).t5
 refine av rfl (nq (l3 ?_))
 cases oi es
 exact ey results3 ⟨et,rfl,ev.s⟩
end Go.Proofs.YtepcfgnicnibnaaGreatDoor
