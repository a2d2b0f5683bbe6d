/-
 Walks of the functions. Printed by gen.py.
-/
import Derived.Test.YtnloenhmkdpgeaaGreatDoorModelLScoreTimes
import Derived.Test.YtnloenhmkdpgeaaGreatDoorWalkA0
import Derived.Test.YtnloenhmkdpgeaaGreatDoorWalkA2
import Derived.Test.YtnloenhmkdpgeaaGreatDoorWalkA3
import Derived.Test.YtnloenhmkdpgeaaGreatDoorWalkA4
import Derived.Test.YtnloenhmkdpgeaaGreatDoorWalkA5
import Derived.Test.YtnloenhmkdpgeaaGreatDoorWalkFS
set_option linter.unusedVariables false
set_option linter.unusedSectionVars false
set_option maxRecDepth 100000
namespace Go.Proofs.YtnloenhmkdpgeaaGreatDoor
set_option maxHeartbeats 4000000
open Go Go.Fk Go.RowKit Tryz
variable (F:Nat){w:World}{K:F9}{Z:List Nat}{g1 g2 g3:Nat}{A B C D G H I J O R S T:Option Addr}{a b c d f i k l m n o p q s v x y aa ab ac ad ae af ag:Nat}
variable [dr:Dr]

theorem a9r {q0:List UInt8}{r:u6×A5×q7×Int}(hS:SH w K [] w K [])(ag:b7 tU8 K A a b q0)(hm:a0p F q0=some r):
  Calls prog 33 #[V3 A a b] w fun e w'=>∃a_1 n_2 c_3 a_5 n_6 c_7 a_9 n_10 c_11 a_13 n_14 c_15 a_19 n_20 c_21 a_25 n_26 c_27 K',e= .returned (.tuple #[.agg #[V3 a_1 n_2 c_3,V3 a_5 n_6 c_7],.agg #[V3 a_9 n_10 c_11,V3 a_13 n_14 c_15],.agg #[V6 r.2.2.1.Kind,sv r.2.2.1.Field,V3 a_19 n_20 c_21,V6 r.2.2.1.From,V6 r.2.2.1.To,V3 a_25 n_26 c_27],V6 r.2.2.2])∧SH w K [] w' K' [tail (V3 a_1 n_2 c_3) 9 1,tail (V3 a_5 n_6 c_7) 144 2,tail (V3 a_13 n_14 c_15) 99 3,tail (V3 a_19 n_20 c_21) 9 1,tail (V3 a_25 n_26 c_27) 35 6]∧b7 D9 K' a_1 n_2 c_3 r.1.Stops∧b7 L0 K' a_5 n_6 c_7 r.1.Syns∧b7 F6 K' a_9 n_10 c_11 r.2.1.Docs∧b7 B8 K' a_13 n_14 c_15 r.2.1.Entries∧i7 r.2.2.1.Kind∧r.2.2.1.Field.length≤maxLen∧b7 D9 K' a_19 n_20 c_21 r.2.2.1.Words∧i7 r.2.2.1.From∧i7 r.2.2.1.To∧b7 F4 K' a_25 n_26 c_27 r.2.2.1.Kids∧i7 r.2.2.2:=by
 rw [a0p] at hm
 refine ci func33 rfl ntmps33 (sr (al B9 hS fun g5 w6 ai=>?_))
 have aj:SH _ _ _ _ _ [s7 g5 [V3 none 0 0,V3 none 0 0] 26]:=ai
 refine al C4 aj fun g9 bo am=>?_
 have an:SH _ _ _ _ _ [s7 g9 [V3 none 0 0,V3 none 0 0] 30,_]:=am
 refine al B1 an fun ao bp ap=>?_
 have Y:SH _ _ _ _ _ [s7 ao [V6 0,sv [],V3 none 0 0,V6 0,V6 0,V3 none 0 0] 35,_,_]:=ap
 refine lv (N2 rfl) (nr (mv rfl ?_))
 obtain⟨bq,aq,ar⟩:=ob hm
 refine lk c1H (a2k F Y.enter0 ag aq) ?_
 rintro br bs ⟨bu,bv,bx,bz,bA,rfl,au,aw,ax⟩
 have aa:=(Y.c0 au).t4
 refine av rfl (nr (mv rfl ?_))
 obtain⟨bB,ay,az⟩:=ob ar
 refine lk c2Q (a2A F aa.e1 aw ax ay) ?_
 rintro bC bD ⟨k,l,m,o,q,s,x,y,B,C,D,G,bE,bF,bG,bH,rfl,aA,aB,aC,aD,aE,aF,aG⟩
 have aH:=(aa.c1 aA).t7
 refine mv rfl (lv (y3 rfl rfl) (lv (y3 rfl rfl) (al B9 aH fun ab bI aI=>?_)))
 have aJ:SH _ _ _ _ _ [s7 ab [V3 none 0 0,V3 none 0 0] 26,_,_,_,_,_,_,_]:=aI
 refine al C4 aJ fun ac bJ aK=>?_
 have aL:SH _ _ _ _ _ [s7 ac [V3 none 0 0,V3 none 0 0] 30,_,_,_,_,_,_,_,_]:=aK
 refine lw [V3 k l m,V3 o q s] B9 aL.f1 fun bK aM=>(lw [V3 x y B,V3 C D G] C4 aM.f1 fun bL aN=>(nr (mv rfl ?_)))
 obtain⟨d,aO,aP⟩:=ob az
 have ad:=aN.f5
 refine lk b4B (a3q F ad.e1 aF aG (by decide :i7 3) aO) ?_
 rintro bM bN ⟨H,I,J,O,R,S,bO,bP,bQ,aQ,rfl,T,aR,aS,aT,aU,aV,aW,aX,aY⟩
 have aZ:=(ad.c1 T).t11
 refine al B1 aZ fun ae bR ba=>?_
 have bb:SH _ _ _ _ _ [s7 ae [V6 0,sv [],V3 none 0 0,V6 0,V6 0,V3 none 0 0] 35,_,_,_,_,_,_,_,_,_,_,_]:=ba
 refine lw [V6 d.1.Kind,sv d.1.Field,V3 H I J,V6 d.1.From,V6 d.1.To,V3 O R S] B1 bb fun bS bc=>(ns ?_)
 have U:=bc.drew
 refine wh1 (fun w'=>H0 aQ w'∧B0 ab [V3 k l m,V3 o q s] w'∧B0 ac [V3 x y B,V3 C D G] w'∧B0 ae [V6 d.1.Kind,sv d.1.Field,V3 H I J,V6 d.1.From,V6 d.1.To,V3 O R S] w') (fun w'=>True) 9 [] mixed ⟨U.hasK kr,U.hasObj m5,U.hasObj m4,U.hasObj m0⟩ (fun _=>trivial) (gh (fun _ h=>A0 (ds:=[V3 k l m,V3 o q s]) B9 rfl rfl rfl h.2.1) (gh (fun _ h=>A0 (ds:=[V3 x y B,V3 C D G]) C4 rfl rfl rfl h.2.2.1) (gh (fun _ h=>A0 (ds:=[V6 d.1.Kind,sv d.1.Field,V3 H I J,V6 d.1.From,V6 d.1.To,V3 O R S]) B1 rfl rfl rfl h.2.2.2) (gt (i5 rfl) (gn ?_)))))
 obtain⟨bT,bd,be⟩:=ob aP
 have af:=U.f3
 refine lk a4r (A6 F af.e1 aX aY (by decide :i7 9) bd) ?_
 rintro bU bV ⟨bW,bX,bY,bf,rfl,f,bg,bZ,ca⟩
 have V:=(af.c1 f).t12
 refine i8 (qh ⟨V.hasK f.le,V.hasObj m5,V.hasObj m4,V.hasObj m1⟩ (fun _=>trivial) (gn ?_))
 have bh:SH _ _ _ _ _ [_,_,_,_,_,_,_,_,_,_,_,_]:=SH.front (p:=[_,_,_,_,_,_,_,_,_,_,_]) V
 refine lw [V3 k l m,V3 o q s] B9 bh fun cb W=>(i8 (qh ⟨W.hasK f.le,W.hasObj m6,W.hasObj m5,W.hasObj m2⟩ (fun _=>trivial) (gn ?_)))
 have bi:SH _ _ _ _ _ [_,_,_,_,_,_,_,_,_,_,_,_]:=SH.front (p:=[_,_,_,_,_,_,_,_,_,_,_]) W
 refine lw [V3 x y B,V3 C D G] C4 bi fun cc X=>(i8 (qh ⟨X.hasK f.le,X.hasObj m7,X.hasObj m6,X.hasObj m3⟩ (fun _=>trivial) (gn ?_)))
 have bj:SH _ _ _ _ _ [_,_,_,_,_,_,_,_,_,_,_,_]:=SH.front (p:=[_,_,_,_,_,_,_,_,_,_,_]) X
 refine lw [V6 d.1.Kind,sv d.1.Field,V3 H I J,V6 d.1.From,V6 d.1.To,V3 O R S] B1 bj fun cd i=>(i8 (qh ⟨i.hasK f.le,i.hasObj m8,i.hasObj m7,i.hasObj m4⟩ (fun _=>trivial) (gt (u9 rfl) (gd' (l5 (j9 ?_))))))
 cases oi be
 have bk:SH _ _ _ _ _ [_,_,_,_,_,_,_,_,_,_,_,_]:=SH.front (p:=[_,_,_,_,_,_,_,_,_,_,_]) i.f6.f6
 have bl:SH _ _ _ _ _ [_,_,_,_,_,_,_,_,_,_,_,_]:=SH.front (p:=[_,_,_,_,_,_,_,_,_,_,_]) bk
 have bm:SH _ _ _ _ _ [_,_,_,_,_,_,_,_,_,_,_,_]:=SH.front (p:=[_,_,_,_,_,_,_,_,_,_,_]) bl
 exact S7 (vs:=[_,_,_,_]) results33 ⟨⟨_,_,rfl,B2 B9 (cs:=[V3 k l m,V3 o q s]) (fun j c e=>by rw [Nat.zero_add,i.mem_obj m2];exact e) (.inl ⟨rfl,rfl,rfl⟩)⟩,⟨_,_,rfl,B2 C4 (cs:=[V3 x y B,V3 C D G]) (fun j c e=>by rw [Nat.zero_add,i.mem_obj m1];exact e) (.inl ⟨rfl,rfl,rfl⟩)⟩,⟨_,_,rfl,B2 B1 (cs:=[V6 d.1.Kind,sv d.1.Field,V3 H I J,V6 d.1.From,V6 d.1.To,V3 O R S]) (fun j c e=>by rw [Nat.zero_add,i.mem_obj m0];exact e) (.inl ⟨rfl,rfl,rfl⟩)⟩,rfl,trivial⟩ ⟨k,l,m,o,q,s,x,y,B,C,D,G,H,I,J,O,R,S,bf,rfl,bm.s,(aB.mono (T.le.trans f.le)),(aC.mono (T.le.trans f.le)),(aD.mono (T.le.trans f.le)),(aE.mono (T.le.trans f.le)),aR,aS,(aT.mono f.le),aU,aV,(aW.mono f.le),bg⟩

theorem a8w {q0:List UInt8}{q1:List UInt8}{r:Bool}(hS:SH w K [] w K [])(aU:b7 tU8 K A a b q0)(aV:b7 tU8 K B c d q1)(hG10:a4i y6 1 f G8 w)(hD: ¬dr.D)(hm:a1h F q0 q1=some r):
  Calls prog 6 #[V3 A a b,V3 B c d] w (R_b w K r):=by
 rw [a1h] at hm
 refine ci func6 rfl ntmps6 (sr (lv (O6 rfl) (ns (o4 ?_))))
 obtain⟨bb,bc,bd⟩:=ob hm
 refine l4 (IV w K [] K [(0,V3 A a b),(1,V3 B c d),(19,.bool bb)] []) ?_ ?_
 ·refine j5 (mv rfl (lv (q9 underlying22 rfl aU) (lv (E7 rfl rfl) (mv rfl (bt bc (fun af aM=>?_) (fun af aM=>?_))))))
  ·refine lu af (lu af (lu af (lv (J6 rfl af rfl) (i8 ?_))))
   cases oi aM
   exact qd ⟨K,rfl,hS,kr⟩
  refine lg af (i5 rfl) (lg af (q9 underlying22 rfl aV) (lg af (E7 rfl rfl) (lv (l9 rfl af rfl) (i8 ?_))))
  cases oi aM
  exact qd ⟨K,rfl,hS,kr⟩
 rintro _ cr ⟨be,rfl,aN,aW⟩
 refine l5 (D5 bd rfl (fun bf aO=>?_) (fun bf aO=>?_))
 ·refine sr (lv (r_t rfl) (nq (rr ?_)))
  cases oi aO
  exact ey results6 ⟨be,rfl,aN⟩
 refine j3 (qr (mv rfl ?_))
 obtain⟨i,bg,bh⟩:=ob aO
 refine lk c6S (a9r F aN.enter0 (aU.mono aW) bg) ?_
 rintro ct cu ⟨y,C,D,G,H,I,J,O,R,S,T,U,V,W,X,Y,aa,ab,cv,rfl,aX,ak,am,an,ao,ax,ay,az,aA,aB,aC,aG⟩
 have bi:=(aN.c0 aX).t5
 refine mv rfl (lv (y3 rfl rfl) (lv (y3 rfl rfl) (lv (y3 rfl rfl) (lv (y3 rfl rfl) (al B9 bi fun aH cw bj=>?_)))))
 have bk:SH _ _ _ _ _ [s7 aH [V3 none 0 0,V3 none 0 0] 26,_,_,_,_,_]:=bj
 refine al C4 bk fun aI cx bl=>?_
 have bm:SH _ _ _ _ _ [s7 aI [V3 none 0 0,V3 none 0 0] 30,_,_,_,_,_,_]:=bl
 refine al B1 bm fun aJ cy bn=>?_
 have bo:SH _ _ _ _ _ [s7 aJ [V6 0,sv [],V3 none 0 0,V6 0,V6 0,V3 none 0 0] 35,_,_,_,_,_,_,_]:=bn
 refine lw [V3 y C D,V3 G H I] B9 bo.f2 fun cz bp=>(lw [V3 J O R,V3 S T U] C4 bp.f2 fun cA bq=>(lw [V6 i.2.2.1.Kind,sv i.2.2.1.Field,V3 V W X,V6 i.2.2.1.From,V6 i.2.2.1.To,V3 Y aa ab] B1 bq.f2 fun cB ar=>(av rfl (nr (lv (j6 (ds:=[V3 y C D,V3 G H I]) B9 rfl m2 ar rfl rfl) (lv (j6 (ds:=[V3 J O R,V3 S T U]) C4 rfl m1 ar rfl rfl) (lv (j6 (ds:=[V6 i.2.2.1.Kind,sv i.2.2.1.Field,V3 V W X,V6 i.2.2.1.From,V6 i.2.2.1.To,V3 Y aa ab]) B1 rfl m0 ar rfl rfl) (mv rfl ?_))))))))
 obtain⟨br,bs,bu⟩:=ob bh
 refine lk b6x (P4 F ar.enter0 ak am an ao ax ay az aA aB aC aG (hG10.keep ar) hD bs) ?_
 rintro cC cD ⟨cE,rfl,k,cF⟩
 have aY:=(ar.c0 k).t8
 refine av rfl (nr (mv rfl (lv (q9 underlying22 rfl (aV.mono ((aW.trans aX.le).trans k.le))) ?_)))
 obtain⟨x,bv,bx⟩:=ob bu
 refine lv (a8J rfl rfl bv) (lv (y7 rfl rfl) (av rfl (nr (mv rfl (lv (j6 (ds:=[V6 i.2.2.1.Kind,sv i.2.2.1.Field,V3 V W X,V6 i.2.2.1.From,V6 i.2.2.1.To,V3 Y aa ab]) B1 rfl m0 aY rfl rfl) (lb F4 (.agg #[V6 i.2.2.1.Kind,sv i.2.2.1.Field,V3 V W X,V6 i.2.2.1.From,V6 i.2.2.1.To,V3 Y aa ab]) [V6 i.2.2.1.Kind,sv i.2.2.1.Field,V3 V W X,V6 i.2.2.1.From,V6 i.2.2.1.To,V3 Y aa ab] i.2.2.1 underlying33 B1 (M4 ⟨V,W,X,Y,aa,ab,rfl,ax,ay,(az.mono k.le),aA,aB,(aC.mono k.le)⟩) aY fun ad cG bz l aP bA=>(lv (C3 (cs:=#[V6 10,sv [],V3 none 0 0,V6 (z8 ((2:Int)+x)),V6 0,V3 ad 1 1]) a7c B1 rfl (by kernel_rfl)) (al B1 bA fun aK cH bB=>?_))))))))
 have bC:SH _ _ _ _ _ [s7 aK [V6 0,sv [],V3 none 0 0,V6 0,V6 0,V3 none 0 0] 35,_,_,_,_,_,_,_,_,_]:=bB
 refine ls [V6 10,sv [],V3 none 0 0,V6 (z8 ((2:Int)+x)),V6 0,V3 ad 1 1] (.agg #[V6 10,sv [],V3 none 0 0,V6 (z8 ((2:Int)+x)),V6 0,V3 ad 1 1]) B1 bC fun cI aD=>(ns (o4 ?_))
 obtain⟨bD,bE,bF⟩:=ob bx
 refine l4 (IV w K [] bz [(5,pt aH),(6,pt aI),(7,pt aJ),(8,V6 i.2.2.2),(9,V6 br),(10,V6 (z8 ((2:Int)+x))),(11,pt aK),(57,.bool bD)] [s7 aH [V3 y C D,V3 G H I] 26,s7 aI [V3 J O R,V3 S T U] 30,s7 aJ [V6 i.2.2.1.Kind,sv i.2.2.1.Field,V3 V W X,V6 i.2.2.1.From,V6 i.2.2.1.To,V3 Y aa ab] 35,s7 aK [V6 10,sv [],V3 none 0 0,V6 (z8 ((2:Int)+x)),V6 0,V3 ad 1 1] 35]) ?_ ?_
 ·refine j5 (mv rfl (lv (j6 (ds:=[V3 y C D,V3 G H I]) B9 rfl m4 aD rfl rfl) (lv (j6 (ds:=[V3 J O R,V3 S T U]) C4 rfl m3 aD rfl rfl) (lv (j6 (ds:=[V6 i.2.2.1.Kind,sv i.2.2.1.Field,V3 V W X,V6 i.2.2.1.From,V6 i.2.2.1.To,V3 Y aa ab]) B1 rfl m2 aD rfl rfl) (mv rfl ?_)))))
  obtain⟨cJ,bG,bH⟩:=ob bE
  refine lk c1E (a0K F aD.enter0 (ak.mono (k.le.trans l)) (am.mono (k.le.trans l)) (an.mono (k.le.trans l)) (ao.mono (k.le.trans l)) ax ay (az.mono (k.le.trans l)) aA aB (aC.mono (k.le.trans l)) aG bG) ?_
  rintro cK cL ⟨bI,rfl,ag,cM⟩
  have aE:=(aD.c0 ag).t10
  refine lv (R2 rfl rfl) (mv rfl (bt bH (fun ah aQ=>?_) (fun ah aQ=>?_)))
  ·refine lu ah (lu ah (lu ah (lv (J6 rfl ah rfl) (mv rfl (lu rfl (lu rfl (lu rfl (lu rfl (lv (J6 rfl rfl rfl) ?_)))))))))
   refine i8 ?_
   cases oi aQ
   exact qd ⟨bI,rfl,aE.f2.f3.f4.s,ag.le⟩
  refine lg ah (j6 (ds:=[V6 10,sv [],V3 none 0 0,V6 (z8 ((2:Int)+x)),V6 0,V3 ad 1 1]) B1 rfl m0 aE rfl rfl) ?_
  obtain⟨cN,bJ,bK⟩:=ob aQ
  refine A3 (wg rfl rfl ah) rfl (A2 (vs:=[.agg #[V6 10,sv [],V3 none 0 0,V6 (z8 ((2:Int)+x)),V6 0,V3 ad 1 1]]) b9U rfl) ((a0J F (q0:=(q7.mk (10:Int) ([]:r4) ([]:List r4) (z8 ((2:Int)+x)) (0:Int) ([i.2.2.1]:List q7)))) aE.enter0 (by decide :i7 10) (by decide :([]:r4).length≤maxLen) (b7.nil _ _) (u0 _) I5 (aP.mono ag.le) (hG10.keep aE) bJ) ?_
  rintro cO cP ⟨bL,rfl,ap⟩
  refine⟨_,rfl,?_⟩
  have aF:=(aE.c0 ap).t10
  refine lg ah (A4 rfl) (lv (l9 rfl ah rfl) (mv rfl (bt bK (fun ac aR=>?_) (fun ac aR=>?_))))
  ·refine lu ac (lu ac (lu ac (lu ac (lv (J6 rfl ac rfl) (i8 ?_)))))
   cases oi aR
   exact qd ⟨bL,rfl,aF.f2.f3.f4.s,(ag.le.trans ap.le)⟩
  refine lg ac (j6 (ds:=[V3 y C D,V3 G H I]) B9 rfl m4 aF rfl rfl) (lg ac (j6 (ds:=[V3 J O R,V3 S T U]) C4 rfl m3 aF rfl rfl) ?_)
  obtain⟨cQ,bM,bN⟩:=ob aR
  refine A3 (wg rfl rfl ac) rfl (A2 (vs:=[.agg #[V3 y C D,V3 G H I],.agg #[V3 J O R,V3 S T U]]) a9k rfl) (J1 F aF.enter0 (b7.mono (((k.le.trans l).trans ag.le).trans ap.le) ak) (b7.mono (((k.le.trans l).trans ag.le).trans ap.le) am) (b7.mono (((k.le.trans l).trans ag.le).trans ap.le) an) (b7.mono (((k.le.trans l).trans ag.le).trans ap.le) ao) bM) ?_
  rintro cR cS ⟨bO,rfl,aZ⟩
  refine⟨_,rfl,?_⟩
  have bP:=(aF.c0 aZ).t10
  refine lg ac (A4 rfl) (lv (l9 rfl ac rfl) (i8 ?_))
  cases oi bN
  exact qd ⟨bO,rfl,bP.f2.f3.f4.s,((ag.le.trans ap.le).trans aZ.le)⟩
 rintro _ cT ⟨bQ,rfl,au,o⟩
 refine l5 (D5 bF rfl (fun bR aS=>?_) (fun bR aS=>?_))
 ·refine sr (mv rfl (lv (j6 (ds:=[V3 y C D,V3 G H I]) B9 rfl m0 au rfl rfl) (lv (j6 (ds:=[V3 J O R,V3 S T U]) C4 rfl m1 au rfl rfl) (lv (j6 (ds:=[V6 i.2.2.1.Kind,sv i.2.2.1.Field,V3 V W X,V6 i.2.2.1.From,V6 i.2.2.1.To,V3 Y aa ab]) B1 rfl m2 au rfl rfl) (mv rfl ?_)))))
  obtain⟨cU,bS,bT⟩:=ob aS
  refine lk c1E (a0K F au.enter0 (ak.mono ((k.le.trans l).trans o)) (am.mono ((k.le.trans l).trans o)) (an.mono ((k.le.trans l).trans o)) (ao.mono ((k.le.trans l).trans o)) ax ay (az.mono ((k.le.trans l).trans o)) aA aB (aC.mono ((k.le.trans l).trans o)) aG bS) ?_
  rintro cV cW ⟨bU,rfl,bV,cX⟩
  have bW:=(au.c0 bV).t4
  refine lv (A9 rfl rfl) (av rfl (nq (rr ?_)))
  cases oi bT
  exact ey results6 ⟨bU,rfl,bW.s⟩
 refine j3 (qs ?_)
 have ai:=au.drew
 refine wj0 (fun w'=>H0 bQ w'∧B0 aH [V3 y C D,V3 G H I] w'∧B0 aI [V3 J O R,V3 S T U] w'∧B0 aK [V6 10,sv [],V3 none 0 0,V6 (z8 ((2:Int)+x)),V6 0,V3 ad 1 1] w'∧B0 aJ [V6 i.2.2.1.Kind,sv i.2.2.1.Field,V3 V W X,V6 i.2.2.1.From,V6 i.2.2.1.To,V3 Y aa ab] w') (fun w'=>True) 21 [] mixed ⟨ai.hasK kr,ai.hasObj m0,ai.hasObj m1,ai.hasObj m3,ai.hasObj m2⟩ (fun _=>trivial) (jh 0 rfl (fun _ h=>A0 (ds:=[V3 y C D,V3 G H I]) B9 rfl rfl rfl h.2.1) (jh 1 rfl (fun _ h=>A0 (ds:=[V3 J O R,V3 S T U]) C4 rfl rfl rfl h.2.2.1) (jh 2 rfl (fun _ h=>A0 (ds:=[V6 10,sv [],V3 none 0 0,V6 (z8 ((2:Int)+x)),V6 0,V3 ad 1 1]) B1 rfl rfl rfl h.2.2.2.1) (jv 3 rfl (i5 rfl) (jv 5 rfl (i5 rfl) (jv 6 rfl (i5 rfl) (jv 7 rfl (U4 rfl rfl) (j1 4 rfl ?_))))))))
 obtain⟨cY,bX,bY⟩:=ob aS
 refine lk b6x ((P4 F (q2:=(q7.mk (10:Int) ([]:r4) ([]:List r4) (z8 ((2:Int)+x)) (0:Int) ([i.2.2.1]:List q7)))) ai.enter0 (ak.mono ((k.le.trans l).trans o)) (am.mono ((k.le.trans l).trans o)) (an.mono ((k.le.trans l).trans o)) (ao.mono ((k.le.trans l).trans o)) (by decide :i7 10) (by decide :([]:r4).length≤maxLen) (b7.nil _ _) (u0 _) I5 (aP.mono o) aG (hG10.keep ai) hD bX) ?_
 rintro cZ da ⟨bZ,rfl,s,db⟩
 have m:=(ai.c0 s).t4
 refine P0 ⟨m.hasK s.le,m.hasObj m0,m.hasObj m1,m.hasObj m3,m.hasObj m2⟩ (jv 8 rfl (A9 rfl rfl) (jv 9 rfl (i5 rfl) (bt bY (fun q aT=>?_) (fun q aT=>?_))))
 ·refine jk q 10 rfl (fun _ h=>A0 (ds:=[V3 y C D,V3 G H I]) B9 rfl rfl rfl h.2.1) (jk q 11 rfl (fun _ h=>A0 (ds:=[V3 J O R,V3 S T U]) C4 rfl rfl rfl h.2.2.1) (jk q 12 rfl (fun _ h=>A0 (ds:=[V6 10,sv [],V3 none 0 0,V6 (z8 ((2:Int)+x)),V6 0,V3 ad 1 1]) B1 rfl rfl rfl h.2.2.2.1) (jk q 14 rfl (fun _ h=>A0 (ds:=[V3 y C D,V3 G H I]) B9 rfl rfl rfl h.2.1) (jk q 15 rfl (fun _ h=>A0 (ds:=[V3 J O R,V3 S T U]) C4 rfl rfl rfl h.2.2.1) (jk q 16 rfl (fun _ h=>A0 (ds:=[V6 i.2.2.1.Kind,sv i.2.2.1.Field,V3 V W X,V6 i.2.2.1.From,V6 i.2.2.1.To,V3 Y aa ab]) B1 rfl rfl rfl h.2.2.2.2) (j1 13 rfl ?_))))))
  obtain⟨dc,ca,cb⟩:=ob aT
  refine A3 (wg rfl rfl q) rfl (A2 (vs:=[.agg #[V3 y C D,V3 G H I],.agg #[V3 J O R,V3 S T U],.agg #[V6 10,sv [],V3 none 0 0,V6 (z8 ((2:Int)+x)),V6 0,V3 ad 1 1]]) b6z rfl) ((U2 F (q2:=(q7.mk (10:Int) ([]:r4) ([]:List r4) (z8 ((2:Int)+x)) (0:Int) ([i.2.2.1]:List q7)))) m.enter0 (b7.mono (((k.le.trans l).trans o).trans s.le) ak) (b7.mono (((k.le.trans l).trans o).trans s.le) am) (b7.mono (((k.le.trans l).trans o).trans s.le) an) (b7.mono (((k.le.trans l).trans o).trans s.le) ao) (by decide :i7 10) (by decide :([]:r4).length≤maxLen) (b7.nil _ _) (u0 _) I5 (aP.mono (o.trans s.le)) (hG10.keep m) hD ca) ?_
  rintro dd de ⟨cc,cd,ce,df,rfl,ae,cf⟩
  refine⟨_,rfl,?_⟩
  have aj:=(m.c0 ae).t5
  refine P0 ⟨aj.hasK (s.le.trans ae.le),aj.hasObj m1,aj.hasObj m2,aj.hasObj m4,aj.hasObj m3⟩ (j1 17 rfl ?_)
  obtain⟨dg,cg,ch⟩:=ob cb
  refine A3 (wg rfl rfl q) rfl (A2 (vs:=[.agg #[V3 y C D,V3 G H I],.agg #[V3 J O R,V3 S T U],.agg #[V6 i.2.2.1.Kind,sv i.2.2.1.Field,V3 V W X,V6 i.2.2.1.From,V6 i.2.2.1.To,V3 Y aa ab]]) b6z rfl) (U2 F aj.enter0 (b7.mono ((((k.le.trans l).trans o).trans s.le).trans ae.le) ak) (b7.mono ((((k.le.trans l).trans o).trans s.le).trans ae.le) am) (b7.mono ((((k.le.trans l).trans o).trans s.le).trans ae.le) an) (b7.mono ((((k.le.trans l).trans o).trans s.le).trans ae.le) ao) ax ay (b7.mono ((((k.le.trans l).trans o).trans s.le).trans ae.le) az) aA aB (b7.mono ((((k.le.trans l).trans o).trans s.le).trans ae.le) aC) (hG10.keep aj) hD cg) ?_
  rintro dh di ⟨cj,ck,cl,dj,rfl,aL,cm⟩
  refine⟨_,rfl,?_⟩
  have aq:=(aj.c0 aL).t6
  refine P0 ⟨aq.hasK ((s.le.trans ae.le).trans aL.le),aq.hasObj m2,aq.hasObj m3,aq.hasObj m5,aq.hasObj m4⟩ (j1 18 rfl ?_)
  obtain⟨dk,cn,cp⟩:=ob ch
  refine A3 (wg rfl rfl q) rfl (A2 (vs:=[V3 cc cd ce,V3 cj ck cl]) c1F rfl) (a26 F aq.enter0 (cf.mono aL.le) cm cn) ?_
  rintro dl dm ⟨cq,rfl,ba⟩
  refine⟨_,rfl,?_⟩
  have aw:=(aq.c0 ba).t6
  refine P0 ⟨aw.hasK (((s.le.trans ae.le).trans aL.le).trans ba.le),aw.hasObj m2,aw.hasObj m3,aw.hasObj m5,aw.hasObj m4⟩ (jv 19 rfl (n9 rfl q rfl) (jv 20 rfl (u9 rfl) (jd (l5 (j9 ?_)))))
  cases oi cp
  exact ey results6 ⟨cq,rfl,aw.s⟩
 refine ju q 10 rfl (ju q 11 rfl (ju q 12 rfl (ju q 14 rfl (ju q 15 rfl (ju q 16 rfl (j1 13 rfl (lu q (P0 ⟨m.hasK s.le,m.hasObj m0,m.hasObj m1,m.hasObj m3,m.hasObj m2⟩ (j1 17 rfl ?_)))))))))
 refine lu q (P0 ⟨m.hasK s.le,m.hasObj m0,m.hasObj m1,m.hasObj m3,m.hasObj m2⟩ (j1 18 rfl (lu q (P0 ⟨m.hasK s.le,m.hasObj m0,m.hasObj m1,m.hasObj m3,m.hasObj m2⟩ (jv 19 rfl (L8 rfl q rfl) (jv 20 rfl (u9 rfl) (jd (l5 (j9 ?_)))))))))
 cases oi aT
 exact ey results6 ⟨bZ,rfl,m.s⟩
end Go.Proofs.YtnloenhmkdpgeaaGreatDoor
