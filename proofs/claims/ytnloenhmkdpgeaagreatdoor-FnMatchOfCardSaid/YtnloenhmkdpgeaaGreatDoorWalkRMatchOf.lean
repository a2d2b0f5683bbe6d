/-
 Walks of the functions. Printed by gen.py.
-/
import Derived.Test.YtnloenhmkdpgeaaGreatDoorModelLMatchOf
import Derived.Test.YtnloenhmkdpgeaaGreatDoorWalkA0
import Derived.Test.YtnloenhmkdpgeaaGreatDoorWalkA2
import Derived.Test.YtnloenhmkdpgeaaGreatDoorWalkA3
import Derived.Test.YtnloenhmkdpgeaaGreatDoorWalkA4
import Derived.Test.YtnloenhmkdpgeaaGreatDoorWalkA5
import Derived.Test.YtnloenhmkdpgeaaGreatDoorWalkA6
set_option linter.unusedVariables false
set_option linter.unusedSectionVars false
set_option maxRecDepth 100000
namespace Go.Proofs.YtnloenhmkdpgeaaGreatDoor
set_option maxHeartbeats 4000000
open Go Go.Fk Go.RowKit Tryz
variable (F:Nat){w:World}{K:F9}{Z:List Nat}{g1 g2 g3:Nat}{A B C D G H I J O R S T:Option Addr}{a b c d f i k l m n o p q s v x y aa ab ac ad ae af ag:Nat}
variable [dr:Dr]

theorem a9s {q0:z7}{r:q7×z7}(hS:SH w K Z w K [s7 g1 [V3 A a b,V6 q0.p_] 141])(aE:b7 tU8 K A a b q0.b_)(aF:i7 q0.p_)(hm:a0q F q0=some r):
  Calls prog 96 #[.pointer (some ⟨g1,0,none⟩)] w fun e w'=>∃a_3 n_4 c_5 a_9 n_10 c_11 a_13 n_14 c_15 K',e= .returned (.agg #[V6 r.1.Kind,sv r.1.Field,V3 a_3 n_4 c_5,V6 r.1.From,V6 r.1.To,V3 a_9 n_10 c_11])∧SH w K Z w' K' [tail (V3 a_3 n_4 c_5) 9 1,tail (V3 a_9 n_10 c_11) 35 6,s7 g1 [V3 a_13 n_14 c_15,V6 r.2.p_] 141]∧i7 r.1.Kind∧r.1.Field.length≤maxLen∧b7 D9 K' a_3 n_4 c_5 r.1.Words∧i7 r.1.From∧i7 r.1.To∧b7 F4 K' a_9 n_10 c_11 r.1.Kids∧b7 tU8 K' a_13 n_14 c_15 r.2.b_∧i7 r.2.p_:=by
 rw [a0q] at hm
 refine ci func96 rfl ntmps96 (sr (al B1 hS fun g7 w9 aH=>?_))
 have aI:SH _ _ _ _ _ [s7 g7 [V6 0,sv [],V3 none 0 0,V6 0,V6 0,V3 none 0 0] 35,_]:=aH
 refine nr (mv rfl ?_)
 obtain⟨c,aJ,aK⟩:=ob hm
 have aj:=aI.f1
 refine lk b4B (a3q F aj.e1 aE aF (by decide :i7 3) aJ) ?_
 rintro bS bT ⟨d,f,i,k,l,m,bU,bV,bW,bX,rfl,aL,B,s,v,C,x,y,aM,aN⟩
 have aO:=(aj.c1 aL).t4
 refine al B1 aO fun aP bY aQ=>?_
 have aR:SH _ _ _ _ _ [s7 aP [V6 0,sv [],V3 none 0 0,V6 0,V6 0,V3 none 0 0] 35,_,_,_,_]:=aQ
 refine lw [V6 c.1.Kind,sv c.1.Field,V3 d f i,V6 c.1.From,V6 c.1.To,V3 k l m] B1 aR fun bZ aS=>(O7 (mv rfl ?_))
 obtain⟨ca,aT,aU⟩:=ob aK
 have ak:=aS.f3
 refine lk a4r (A6 F ak.e1 aM aN (by decide :i7 16) aT) ?_
 rintro cb cc ⟨V,W,X,aV,rfl,o,cd,D,G⟩
 have q:=(ak.c1 o).t5
 refine nq (j7 (sr (lv (A9 rfl rfl) (av rfl (nq (D5 aU rfl (fun aW Y=>?_) (fun aW Y=>?_)))))))
 ·refine j5 (mv rfl (J2 (t:=D6) (n:=3) (pv:=[(0,V6 0),(1,V6 11),(2,V6 7)]) (cs:=[V6 0,V6 11,V6 7]) (xs:=[(0:Int),(11:Int),(7:Int)]) wn rfl underlying46 E6 rfl rfl rfl (by kernel_rfl) rfl rfl (H5 (u:=V6 0) (z:=(0:Int)) ⟨rfl,I5⟩ (H5 (u:=V6 11) (z:=(11:Int)) ⟨rfl,(by decide :i7 11)⟩ (H5 (u:=V6 7) (z:=(7:Int)) ⟨rfl,(by decide :i7 7)⟩ a1W))) q fun ce cf cg aa aX aY=>?_))
  obtain⟨T,aZ,ba⟩:=ob Y
  have am:=aY.f1
  refine lk c4z (a4z F am.e1 (D.mono aa) G aX aZ) ?_
  rintro ch cj ⟨bb,bc,bd,be,rfl,ab,bf,bg,bh⟩
  have bi:=(am.c1 ab).t6
  refine fa a6x rfl (ls [V6 T.1,sv c.1.Field,V3 d f i,V6 c.1.From,V6 c.1.To,V3 k l m] (V6 T.1) E6 bi.f2 fun ck an=>(nb (qr (lv (j6 (ds:=[V6 T.1,sv c.1.Field,V3 d f i,V6 c.1.From,V6 c.1.To,V3 k l m]) B1 rfl m0 an rfl rfl) (lw [V6 T.1,sv c.1.Field,V3 d f i,V6 c.1.From,V6 c.1.To,V3 k l m] B1 an.f5 fun cl ao=>(nq (j9 ?_)))))))
  cases oi ba
  exact ez results96 B1 ao m0 ⟨d,f,i,k,l,m,bb,bc,bd,be,rfl,ao.f2.f5.f5.s,bf,s,(v.mono ((o.le.trans aa).trans ab.le)),C,x,(y.mono ((o.le.trans aa).trans ab.le)),bg,bh⟩
 refine sr (lv (A9 rfl rfl) (av rfl (nq (D5 Y rfl (fun bj ac=>?_) (fun bj ac=>?_)))))
 ·refine j5 (mv rfl (J2 (t:=D6) (n:=3) (pv:=[(0,V6 (-1)),(1,V6 10),(2,V6 1)]) (cs:=[V6 (-1),V6 10,V6 1]) (xs:=[(-1:Int),(10:Int),(1:Int)]) wn rfl underlying46 E6 rfl rfl rfl (by kernel_rfl) rfl rfl (H5 (u:=V6 (-1)) (z:=(-1:Int)) ⟨rfl,(by decide :i7 (-1))⟩ (H5 (u:=V6 10) (z:=(10:Int)) ⟨rfl,(by decide :i7 10)⟩ (H5 (u:=V6 1) (z:=(1:Int)) ⟨rfl,(by decide :i7 1)⟩ a1W))) q fun cm cn cp ad bk bl=>?_))
  obtain⟨U,bm,bn⟩:=ob ac
  have ap:=bl.f1
  refine lk c4z (a4z F ap.e1 (D.mono ad) G bk bm) ?_
  rintro cq cr ⟨bo,bp,bq,br,rfl,ae,bs,bu,bv⟩
  have bx:=(ap.c1 ae).t6
  refine fa a1w rfl (ls [V6 c.1.Kind,sv c.1.Field,V3 d f i,V6 U.1,V6 c.1.To,V3 k l m] (V6 U.1) E6 bx.f2 fun ct aq=>(nb (qr (lv (j6 (ds:=[V6 c.1.Kind,sv c.1.Field,V3 d f i,V6 U.1,V6 c.1.To,V3 k l m]) B1 rfl m0 aq rfl rfl) (lw [V6 c.1.Kind,sv c.1.Field,V3 d f i,V6 U.1,V6 c.1.To,V3 k l m] B1 aq.f5 fun cu ar=>(nq (j9 ?_)))))))
  cases oi bn
  exact ez results96 B1 ar m0 ⟨d,f,i,k,l,m,bo,bp,bq,br,rfl,ar.f2.f5.f5.s,B,s,(v.mono ((o.le.trans ad).trans ae.le)),bs,x,(y.mono ((o.le.trans ad).trans ae.le)),bu,bv⟩
 refine sr (lv (A9 rfl rfl) (av rfl (nq (D5 ac rfl (fun bz af=>?_) (fun bz af=>?_)))))
 ·refine j5 (fl a0B rfl W1 m1 q rfl (lb D9 (sv [66,97,100]) [sv [66,97,100]] ([66,97,100]:r4) underlying23 G7 ⟨rfl,(by decide :([66,97,100]:r4).length≤maxLen)⟩ q fun cv cw cx ag bA bB=>?_))
  obtain⟨cy,bC,bD⟩:=ob af
  refine lp underlying23 G7 (v.mono (o.le.trans ag)) bA bC bB.f3 fun H I J cz bE au bF bG=>(fa a0B rfl (ls [V6 c.1.Kind,sv c.1.Field,V3 H I J,V6 c.1.From,V6 c.1.To,V3 k l m] (V3 H I J) W1 bG.f3 fun cA aw=>(nb (qr (lv (j6 (ds:=[V6 c.1.Kind,sv c.1.Field,V3 H I J,V6 c.1.From,V6 c.1.To,V3 k l m]) B1 rfl m0 aw rfl rfl) (lw [V6 c.1.Kind,sv c.1.Field,V3 H I J,V6 c.1.From,V6 c.1.To,V3 k l m] B1 aw.f5 fun cB ax=>(nq (j9 ?_))))))))
  cases oi bD
  exact ez results96 B1 ax m0 ⟨H,I,J,k,l,m,V,W,X,bE,rfl,ax.f4.f5.f4.s,B,s,bF,C,x,(y.mono ((o.le.trans ag).trans au)),(D.mono (ag.trans au)),G⟩
 refine sr (lv (A9 rfl rfl) (av rfl (nq (D5 af rfl (fun bH ah=>?_) (fun bH ah=>?_)))))
 ·refine sr (lv (j6 (ds:=[V6 c.1.Kind,sv c.1.Field,V3 d f i,V6 c.1.From,V6 c.1.To,V3 k l m]) B1 rfl m1 q rfl rfl) (al B1 q fun bI cC bJ=>?_))
  have bK:SH _ _ _ _ _ [s7 bI [V6 0,sv [],V3 none 0 0,V6 0,V6 0,V3 none 0 0] 35,_,_,_,_,_]:=bJ
  refine lw [V6 c.1.Kind,sv c.1.Field,V3 d f i,V6 c.1.From,V6 c.1.To,V3 k l m] B1 bK fun cD ay=>(nq (j5 (lv (j6 (ds:=[V6 c.1.Kind,sv c.1.Field,V3 d f i,V6 c.1.From,V6 c.1.To,V3 k l m]) B1 rfl m0 ay rfl rfl) (lb F4 (.agg #[V6 c.1.Kind,sv c.1.Field,V3 d f i,V6 c.1.From,V6 c.1.To,V3 k l m]) [V6 c.1.Kind,sv c.1.Field,V3 d f i,V6 c.1.From,V6 c.1.To,V3 k l m] c.1 underlying33 B1 (M4 ⟨d,f,i,k,l,m,rfl,B,s,(v.mono o.le),C,x,(y.mono o.le)⟩) ay fun cE cF cG ai bL az=>(fl W9 rfl a5u m3 az rfl ?_)))))
  obtain⟨cH,bM,bN⟩:=ob ah
  refine lp underlying33 B1 bL (y.mono (o.le.trans ai)) bM az fun O R S cI bO aA bP bQ=>(fa W9 rfl (ls [V6 c.1.Kind,sv c.1.Field,V3 d f i,V6 c.1.From,V6 c.1.To,V3 O R S] (V3 O R S) a5u bQ.f3 fun cJ aB=>(nb (qr (lv (j6 (ds:=[V6 c.1.Kind,sv c.1.Field,V3 d f i,V6 c.1.From,V6 c.1.To,V3 O R S]) B1 rfl m0 aB rfl rfl) (lw [V6 c.1.Kind,sv c.1.Field,V3 d f i,V6 c.1.From,V6 c.1.To,V3 O R S] B1 aB.f6 fun cK aC=>(nq (j9 ?_))))))))
  cases oi bN
  exact ez results96 B1 aC m0 ⟨d,f,i,O,R,S,V,W,X,bO,rfl,aC.f4.f3.f5.s,B,s,(v.mono ((o.le.trans ai).trans aA)),C,x,bP,(D.mono (ai.trans aA)),G⟩
 refine j3 (x8 (qr (lv (j6 (ds:=[V6 c.1.Kind,sv c.1.Field,V3 d f i,V6 c.1.From,V6 c.1.To,V3 k l m]) B1 rfl m1 q rfl rfl) (lw [V6 c.1.Kind,sv c.1.Field,V3 d f i,V6 c.1.From,V6 c.1.To,V3 k l m] B1 q.f4 fun cL aD=>(nq (j9 ?_))))))
 cases oi ah
 exact ez results96 B1 aD m0 ⟨d,f,i,k,l,m,V,W,X,aV,rfl,aD.f1.f4.f4.s,B,s,(v.mono o.le),C,x,(y.mono o.le),D,G⟩

theorem a9p {q0:List UInt8}{r:u6×A5×q7}(hS:SH w K [] w K [])(aD:b7 tU8 K A a b q0)(hm:a0n F q0=some r):
  Calls prog 38 #[V3 A a b] w fun e w'=>∃a_1 n_2 c_3 a_5 n_6 c_7 a_9 n_10 c_11 a_13 n_14 c_15 a_19 n_20 c_21 a_25 n_26 c_27 K',e= .returned (.tuple #[.agg #[V3 a_1 n_2 c_3,V3 a_5 n_6 c_7],.agg #[V3 a_9 n_10 c_11,V3 a_13 n_14 c_15],.agg #[V6 r.2.2.Kind,sv r.2.2.Field,V3 a_19 n_20 c_21,V6 r.2.2.From,V6 r.2.2.To,V3 a_25 n_26 c_27]])∧SH w K [] w' K' [tail (V3 a_1 n_2 c_3) 9 1,tail (V3 a_5 n_6 c_7) 144 2,tail (V3 a_13 n_14 c_15) 99 3,tail (V3 a_19 n_20 c_21) 9 1,tail (V3 a_25 n_26 c_27) 35 6]∧b7 D9 K' a_1 n_2 c_3 r.1.Stops∧b7 L0 K' a_5 n_6 c_7 r.1.Syns∧b7 F6 K' a_9 n_10 c_11 r.2.1.Docs∧b7 B8 K' a_13 n_14 c_15 r.2.1.Entries∧i7 r.2.2.Kind∧r.2.2.Field.length≤maxLen∧b7 D9 K' a_19 n_20 c_21 r.2.2.Words∧i7 r.2.2.From∧i7 r.2.2.To∧b7 F4 K' a_25 n_26 c_27 r.2.2.Kids:=by
 rw [a0n] at hm
 refine ci func38 rfl ntmps38 (sr (al B9 hS fun g5 w6 aF=>?_))
 have aG:SH _ _ _ _ _ [s7 g5 [V3 none 0 0,V3 none 0 0] 26]:=aF
 refine al C4 aG fun g9 bO aI=>?_
 have aJ:SH _ _ _ _ _ [s7 g9 [V3 none 0 0,V3 none 0 0] 30,_]:=aI
 refine al B1 aJ fun aK bP aL=>?_
 have ap:SH _ _ _ _ _ [s7 aK [V6 0,sv [],V3 none 0 0,V6 0,V6 0,V3 none 0 0] 35,_,_]:=aL
 refine nr (mv rfl ?_)
 obtain⟨bQ,aM,aN⟩:=ob hm
 refine lk c1H (a2k F ap.enter0 aD aM) ?_
 rintro bR bS ⟨bT,bU,bV,bW,bX,rfl,aO,aP,aQ⟩
 have aq:=(ap.c0 aO).t4
 refine av rfl (nr (mv rfl ?_))
 obtain⟨bY,aR,aS⟩:=ob aN
 refine lk c2Q (a2A F aq.e1 aP aQ aR) ?_
 rintro bZ ca ⟨d,f,i,k,l,m,o,q,s,v,x,y,cb,cc,cd,ce,rfl,aT,ar,au,aw,ax,aU,aV⟩
 have aW:=(aq.c1 aT).t7
 refine mv rfl (lv (y3 rfl rfl) (lv (y3 rfl rfl) (al B9 aW fun Y cf aX=>?_)))
 have aY:SH _ _ _ _ _ [s7 Y [V3 none 0 0,V3 none 0 0] 26,_,_,_,_,_,_,_]:=aX
 refine al C4 aY fun aa cg aZ=>?_
 have ba:SH _ _ _ _ _ [s7 aa [V3 none 0 0,V3 none 0 0] 30,_,_,_,_,_,_,_,_]:=aZ
 refine lw [V3 d f i,V3 k l m] B9 ba.f1 fun ch bb=>(lw [V3 o q s,V3 v x y] C4 bb.f1 fun cj bc=>(O7 (mv rfl ?_)))
 obtain⟨ck,bd,be⟩:=ob aS
 have ay:=bc.f5
 refine lk a4r (A6 F ay.e1 aU aV (by decide :i7 10) bd) ?_
 rintro cl cm ⟨cn,cp,cq,az,rfl,B,cr,aA,aB⟩
 have aC:=(ay.c1 B).t9
 refine lv (A9 rfl rfl) (nq (D5 be rfl (fun bf ab=>?_) (fun bf ab=>?_)))
 ·refine o4 ?_
  have O:=aC.drew
  refine wh1 (fun w'=>H0 az w'∧B0 Y [V3 d f i,V3 k l m] w'∧B0 aa [V3 o q s,V3 v x y] w') (fun w'=>True) 7 [] mixed ⟨O.hasK kr,O.hasObj m2,O.hasObj m1⟩ (fun _=>trivial) (gh (fun _ h=>A0 (ds:=[V3 d f i,V3 k l m]) B9 rfl rfl rfl h.2.1) (gh (fun _ h=>A0 (ds:=[V3 o q s,V3 v x y]) C4 rfl rfl rfl h.2.2) (gt (i5 rfl) (gn ?_))))
  obtain⟨G,bg,bh⟩:=ob ab
  refine lk c7a (a9s F O.e1 aA aB bg) ?_
  rintro ct cu ⟨ac,ad,ae,af,ag,ah,cv,cw,cx,bi,rfl,C,bj,bk,bl,bm,bn,bo,cy,cz⟩
  have S:=(O.c1 C).t11
  refine i8 (qh ⟨S.hasK C.le,S.hasObj m4,S.hasObj m3⟩ (fun _=>trivial) (gn ?_))
  have bp:SH _ _ _ _ _ [_,_,_,_,_,_,_,_,_,_,_]:=SH.front (p:=[_,_,_,_,_,_,_,_,_,_]) S
  refine lw [V3 d f i,V3 k l m] B9 bp fun cA T=>(i8 (qh ⟨T.hasK C.le,T.hasObj m5,T.hasObj m4⟩ (fun _=>trivial) (gn ?_)))
  have bq:SH _ _ _ _ _ [_,_,_,_,_,_,_,_,_,_,_]:=SH.front (p:=[_,_,_,_,_,_,_,_,_,_]) T
  refine lw [V3 o q s,V3 v x y] C4 bq fun cB U=>(i8 (qh ⟨U.hasK C.le,U.hasObj m6,U.hasObj m5⟩ (fun _=>trivial) (gn ?_)))
  have br:SH _ _ _ _ _ [_,_,_,_,_,_,_,_,_,_,_]:=SH.front (p:=[_,_,_,_,_,_,_,_,_,_]) U
  refine lw [V6 G.1.Kind,sv G.1.Field,V3 ac ad ae,V6 G.1.From,V6 G.1.To,V3 af ag ah] B1 br fun cC I=>(i8 (qh ⟨I.hasK C.le,I.hasObj m7,I.hasObj m6⟩ (fun _=>trivial) (gd' (l5 (rr ?_)))))
  cases oi bh
  have bs:SH _ _ _ _ _ [_,_,_,_,_,_,_,_,_,_,_]:=SH.front (p:=[_,_,_,_,_,_,_,_,_,_]) I.f4.f4
  have bu:SH _ _ _ _ _ [_,_,_,_,_,_,_,_,_,_,_]:=SH.front (p:=[_,_,_,_,_,_,_,_,_,_]) bs
  have bv:SH _ _ _ _ _ [_,_,_,_,_,_,_,_,_,_,_]:=SH.front (p:=[_,_,_,_,_,_,_,_,_,_]) bu
  exact S7 (vs:=[_,_,_]) results38 ⟨⟨_,_,rfl,B2 B9 (cs:=[V3 d f i,V3 k l m]) (fun j c e=>by rw [Nat.zero_add,I.mem_obj m2];exact e) (.inl ⟨rfl,rfl,rfl⟩)⟩,⟨_,_,rfl,B2 C4 (cs:=[V3 o q s,V3 v x y]) (fun j c e=>by rw [Nat.zero_add,I.mem_obj m1];exact e) (.inl ⟨rfl,rfl,rfl⟩)⟩,⟨_,_,rfl,B2 B1 (cs:=[V6 G.1.Kind,sv G.1.Field,V3 ac ad ae,V6 G.1.From,V6 G.1.To,V3 af ag ah]) (fun j c e=>by rw [Nat.zero_add,I.mem_obj m0];exact e) (.inl ⟨rfl,rfl,rfl⟩)⟩,trivial⟩ ⟨d,f,i,k,l,m,o,q,s,v,x,y,ac,ad,ae,af,ag,ah,bi,rfl,bv.s,(ar.mono (B.le.trans C.le)),(au.mono (B.le.trans C.le)),(aw.mono (B.le.trans C.le)),(ax.mono (B.le.trans C.le)),bj,bk,bl,bm,bn,bo⟩
 refine j3 (qs ?_)
 have R:=aC.drew
 refine wh1 (fun w'=>H0 az w'∧B0 Y [V3 d f i,V3 k l m] w'∧B0 aa [V3 o q s,V3 v x y] w') (fun w'=>True) 7 [] mixed ⟨R.hasK kr,R.hasObj m2,R.hasObj m1⟩ (fun _=>trivial) (gh (fun _ h=>A0 (ds:=[V3 d f i,V3 k l m]) B9 rfl rfl rfl h.2.1) (gh (fun _ h=>A0 (ds:=[V3 o q s,V3 v x y]) C4 rfl rfl rfl h.2.2) (gt (i5 rfl) (gn ?_))))
 obtain⟨H,bx,bz⟩:=ob ab
 refine lk b4B (a3q F R.e1 aA aB (by decide :i7 3) bx) ?_
 rintro cD cE ⟨ai,aj,ak,am,an,ao,cF,cG,cH,bA,rfl,D,bB,bC,bD,bE,bF,bG,cI,cJ⟩
 have V:=(R.c1 D).t11
 refine i8 (qh ⟨V.hasK D.le,V.hasObj m4,V.hasObj m3⟩ (fun _=>trivial) (gn ?_))
 have bH:SH _ _ _ _ _ [_,_,_,_,_,_,_,_,_,_,_]:=SH.front (p:=[_,_,_,_,_,_,_,_,_,_]) V
 refine lw [V3 d f i,V3 k l m] B9 bH fun cK W=>(i8 (qh ⟨W.hasK D.le,W.hasObj m5,W.hasObj m4⟩ (fun _=>trivial) (gn ?_)))
 have bI:SH _ _ _ _ _ [_,_,_,_,_,_,_,_,_,_,_]:=SH.front (p:=[_,_,_,_,_,_,_,_,_,_]) W
 refine lw [V3 o q s,V3 v x y] C4 bI fun cL X=>(i8 (qh ⟨X.hasK D.le,X.hasObj m6,X.hasObj m5⟩ (fun _=>trivial) (gn ?_)))
 have bJ:SH _ _ _ _ _ [_,_,_,_,_,_,_,_,_,_,_]:=SH.front (p:=[_,_,_,_,_,_,_,_,_,_]) X
 refine lw [V6 H.1.Kind,sv H.1.Field,V3 ai aj ak,V6 H.1.From,V6 H.1.To,V3 am an ao] B1 bJ fun cM J=>(i8 (qh ⟨J.hasK D.le,J.hasObj m7,J.hasObj m6⟩ (fun _=>trivial) (gd' (l5 (j9 ?_)))))
 cases oi bz
 have bK:SH _ _ _ _ _ [_,_,_,_,_,_,_,_,_,_,_]:=SH.front (p:=[_,_,_,_,_,_,_,_,_,_]) J.f4.f4
 have bL:SH _ _ _ _ _ [_,_,_,_,_,_,_,_,_,_,_]:=SH.front (p:=[_,_,_,_,_,_,_,_,_,_]) bK
 have bM:SH _ _ _ _ _ [_,_,_,_,_,_,_,_,_,_,_]:=SH.front (p:=[_,_,_,_,_,_,_,_,_,_]) bL
 exact S7 (vs:=[_,_,_]) results38 ⟨⟨_,_,rfl,B2 B9 (cs:=[V3 d f i,V3 k l m]) (fun j c e=>by rw [Nat.zero_add,J.mem_obj m2];exact e) (.inl ⟨rfl,rfl,rfl⟩)⟩,⟨_,_,rfl,B2 C4 (cs:=[V3 o q s,V3 v x y]) (fun j c e=>by rw [Nat.zero_add,J.mem_obj m1];exact e) (.inl ⟨rfl,rfl,rfl⟩)⟩,⟨_,_,rfl,B2 B1 (cs:=[V6 H.1.Kind,sv H.1.Field,V3 ai aj ak,V6 H.1.From,V6 H.1.To,V3 am an ao]) (fun j c e=>by rw [Nat.zero_add,J.mem_obj m0];exact e) (.inl ⟨rfl,rfl,rfl⟩)⟩,trivial⟩ ⟨d,f,i,k,l,m,o,q,s,v,x,y,ai,aj,ak,am,an,ao,bA,rfl,bM.s,(ar.mono (B.le.trans D.le)),(au.mono (B.le.trans D.le)),(aw.mono (B.le.trans D.le)),(ax.mono (B.le.trans D.le)),bB,bC,bD,bE,bF,bG⟩

theorem a7I {q0:u6}{q1:A5}{q2:q7}{r:(List Int)}(hS:SH w K [] w K [])(am:b7 D9 K A a b q0.Stops)(an:b7 L0 K B c d q0.Syns)(I:b7 F6 K C f i q1.Docs)(ao:b7 B8 K D k l q1.Entries)(ap:i7 q2.Kind)(aq:q2.Field.length≤maxLen)(ar:b7 D9 K G m n q2.Words)(au:i7 q2.From)(aw:i7 q2.To)(ax:b7 F4 K H o p q2.Kids)(hm:a1n F q0 q1 q2=some r):
  Calls prog 39 #[.agg #[V3 A a b,V3 B c d],.agg #[V3 C f i,V3 D k l],.agg #[V6 q2.Kind,sv q2.Field,V3 G m n,V6 q2.From,V6 q2.To,V3 H o p]] w fun e w'=>∃a_1 n_2 c_3 K',e= .returned (V3 a_1 n_2 c_3)∧SH w K [] w' K' [tail (V3 a_1 n_2 c_3) 3 1]∧b7 D6 K' a_1 n_2 c_3 r:=by
 rw [a1n] at hm
 refine ci func39 rfl ntmps39 (sr (bx rfl hS fun T cg aJ=>?_))
 have aK:SH _ _ _ _ _ [s7 T [V3 A a b,V3 B c d] 26]:=aJ
 refine bx rfl aK fun U ch aL=>?_
 have aM:SH _ _ _ _ _ [s7 U [V3 C f i,V3 D k l] 30,_]:=aL
 refine bx rfl aM fun V cj aN=>?_
 have aO:SH _ _ _ _ _ [s7 V [V6 q2.Kind,sv q2.Field,V3 G m n,V6 q2.From,V6 q2.To,V3 H o p] 35,_,_]:=aN
 refine lv (r_n rfl) (nr (b0 D6 underlying46 E6 aO fun ae ck aP q aD af=>(av rfl (ns (o4 ?_)))))
 obtain⟨aQ,aR,aS⟩:=ob hm
 refine l4 (IV w K [] aP [(3,pt T),(4,pt U),(5,pt V),(7,V3 ae 0 0),(18,.bool aQ)] [s7 T [V3 A a b,V3 B c d] 26,s7 U [V3 C f i,V3 D k l] 30,s7 V [V6 q2.Kind,sv q2.Field,V3 G m n,V6 q2.From,V6 q2.To,V3 H o p] 35,tail (V3 ae 0 0) 3 1]) ?_ ?_
 ·refine j5 (lv (j6 (ds:=[V3 A a b,V3 B c d]) B9 rfl m3 af rfl rfl) (lv (j6 (ds:=[V3 C f i,V3 D k l]) C4 rfl m2 af rfl rfl) ?_))
  obtain⟨cl,aT,aU⟩:=ob aR
  refine lk c2R (a5K F af.enter0 (am.mono q) (an.mono q) (I.mono q) (ao.mono q) aT) ?_
  rintro cm cn ⟨aV,rfl,W⟩
  have ag:=(af.c0 W).t4
  refine lv (A4 rfl) (mv rfl (bt aU (fun y ay=>?_) (fun y ay=>?_)))
  ·refine lu y (lu y (lu y (lv (J6 rfl y rfl) (i8 ?_))))
   cases oi ay
   exact qd ⟨aV,rfl,ag.f1.f2.f3,W.le⟩
  refine lg y (j6 (ds:=[V6 q2.Kind,sv q2.Field,V3 G m n,V6 q2.From,V6 q2.To,V3 H o p]) B1 rfl m1 ag rfl rfl) ?_
  obtain⟨cp,aW,aX⟩:=ob ay
  refine A3 (wg rfl rfl y) rfl (A2 (vs:=[.agg #[V6 q2.Kind,sv q2.Field,V3 G m n,V6 q2.From,V6 q2.To,V3 H o p]]) c4x rfl) (a6E F ag.enter0 ap aq (ar.mono (q.trans W.le)) au aw (ax.mono (q.trans W.le)) aW) ?_
  rintro cq cr ⟨aY,rfl,aE⟩
  refine⟨_,rfl,?_⟩
  have aZ:=(ag.c0 aE).t4
  refine lg y (A4 rfl) (lv (l9 rfl y rfl) (i8 ?_))
  cases oi aX
  exact qd ⟨aY,rfl,aZ.f1.f2.f3,(W.le.trans aE.le)⟩
 rintro _ cs ⟨ah,rfl,aF,x⟩
 refine l5 (D5 aS rfl (fun ba az=>?_) (fun ba az=>?_))
 ·refine sr (mv rfl (av rfl (nq (rr ?_))))
  cases oi az
  exact ey results39 ⟨ae,0,0,ah,rfl,aF.s,(aD.mono x)⟩
 refine j3 (qs (sr (lv (N2 rfl) (nq ?_))))
 obtain⟨bb,bc,bd⟩:=ob az
 refine l4 (fun E' w'=>∃X Y aa ab,E'=[(7,V3 X Y aa)]∧SH w K [] w' ab [tail (V3 X Y aa) 3 1]∧M0 ah ab∧b7 D6 ab X Y aa bb) ?_ ?_
 ·refine j7 ?_
  obtain⟨ct,be,bf⟩:=ob bc
  refine qw (fun (ai:(List Int)×Int) E' w'=>∃J O R ac,E'=[(3,pt T),(4,pt U),(5,pt V),(7,V3 J O R),(8,V6 ai.2)]∧SH w K [] w' ac [s7 T [V3 A a b,V3 B c d] 26,s7 U [V3 C f i,V3 D k l] 30,s7 V [V6 q2.Kind,sv q2.Field,V3 G m n,V6 q2.From,V6 q2.To,V3 H o p] 35,tail (V3 J O R) 3 1]∧M0 ah ac∧b7 D6 ac J O R ai.1∧i7 ai.2) be ⟨ae,0,0,ah,rfl,aF,kr,(aD.mono x),I5⟩ ?_
  rintro ai _ cu cv bg bh ⟨J,O,R,ac,rfl,aj,s,aA,cw⟩
  refine o4 (sr (mv rfl (fl L3 rfl a1b m1 aj rfl (lv (q9 underlying27 rfl (I.mono ((q.trans x).trans s))) (lv (u7 rfl rfl) (nq (D5 bg rfl (fun bi aB=>?_) (fun bi aB=>?_))))))))
  ·refine j3 (qs (j7 (o4 (D4 mixed (by kernel_rfl) aj (kh (D8 (ds:=[V3 A a b,V3 B c d]) B9 rfl m0 rfl rfl) (kh (D8 (ds:=[V3 C f i,V3 D k l]) C4 rfl m1 rfl rfl) (kh (D8 (ds:=[V6 q2.Kind,sv q2.Field,V3 G m n,V6 q2.From,V6 q2.To,V3 H o p]) B1 rfl m2 rfl rfl) (kv (c7 L3 rfl) (kh (z6 a1b rfl m1 rfl) ?_)))))))))
   refine km rfl ?_
   obtain⟨bj,bk,bl⟩:=ob aB
   refine ki underlying27 E8 (I.mono ((q.trans x).trans s)) bk fun bm bn cx bo bp=>?_
   obtain⟨bq,br,bs,bu,bv,bz,rfl,aG,cy,cz⟩:=bo
   have bA:F1 _ bm bn [V6 bj.Id,V3 bq br bs,V3 bu bv bz]:=bp
   refine kv (c7 P6 rfl) (kh (C1 E6 rfl (bA 0 _ rfl)) ?_)
   obtain⟨cA,aH,bB⟩:=ob bl
   refine kd b78 (fun _ _ bC S=>(a1A F) bC.enter0 (b7.mono (((q.trans x).trans s).trans S) am) (b7.mono (((q.trans x).trans s).trans S) an) (b7.mono (((q.trans x).trans s).trans S) I) (b7.mono (((q.trans x).trans s).trans S) ao) ap aq (b7.mono (((q.trans x).trans s).trans S) ar) au aw (b7.mono (((q.trans x).trans s).trans S) ax) aG aH) ?_
   obtain⟨_,_,_,⟨_,_,_,cB⟩,_⟩:=(a1A F) aj.enter0 (am.mono ((q.trans x).trans s)) (an.mono ((q.trans x).trans s)) (I.mono ((q.trans x).trans s)) (ao.mono ((q.trans x).trans s)) ap aq (ar.mono ((q.trans x).trans s)) au aw (ax.mono ((q.trans x).trans s)) aG aH []
   refine kv (E7 rfl rfl) (B4 ?_)
   rintro cC ⟨bD,ak,ad⟩
   refine l5 (D5 bB rfl (fun bE aC=>?_) (fun bE aC=>?_))
   ·refine j5 (mv rfl (fl L3 rfl a1b m1 ak rfl (mv rfl ?_)))
    obtain⟨al,bF,bG⟩:=ob aC
    refine li underlying27 E8 (b7.mono (((q.trans x).trans s).trans ad) I) bF fun bH bI cD bJ bK=>?_
    obtain⟨bL,bM,bN,bO,bP,bQ,rfl,bR,cE,cF⟩:=bJ
    have bS:F1 _ bH bI [V6 al.Id,V3 bL bM bN,V3 bO bP bQ]:=bK
    refine fa P6 rfl (lv (y9 E6 rfl ak (bS 0 _ rfl)) (lb D6 (V6 al.Id) [V6 al.Id] al.Id underlying46 E6 ⟨rfl,bR⟩ ak fun cG cH cI aI bT bU=>?_))
    obtain⟨cJ,bV,bW⟩:=ob bG
    refine lp underlying46 E6 (aA.mono (ad.trans aI)) bT bV bU.f4 fun bX bY bZ cK ca cb cc cd=>(av rfl (nb (l5 (j5 (mv rfl (lv (y7 rfl rfl) (av rfl (i8 ?_))))))))
    cases oi bW
    exact qd ⟨_,rfl,bX,bY,bZ,ca,rfl,cd.f4.f4.f4.s,(((s.trans ad).trans aI).trans cb),cc,(u0 _)⟩
   refine j3 (x8 (l5 (j5 (mv rfl (lv (y7 rfl rfl) (av rfl (i8 ?_)))))))
   cases oi aC
   exact qd ⟨_,rfl,J,O,R,bD,rfl,ak,(s.trans ad),(aA.mono ad),(u0 _)⟩
  refine y4 (g8 (g8 ?_))
  cases oi aB
  cases bh _ rfl
  refine l6 ?_
  cases oi bf
  exact qd ⟨J,O,R,ac,rfl,aj.s,s,aA⟩
 rintro _ cL ⟨X,Y,aa,ab,rfl,ce,cM,cf⟩
 refine qr (mv rfl (av rfl (nq (j9 ?_))))
 cases oi bd
 exact ey results39 ⟨X,Y,aa,ab,rfl,ce,cf⟩

theorem b1B {q0:A5}{r:(List Int)}(hS:SH w K [] w K [])(J:b7 F6 K A a b q0.Docs)(aL:b7 B8 K B c d q0.Entries)(hm:a16 F q0=some r):
  Calls prog 40 #[.agg #[V3 A a b,V3 B c d]] w fun e w'=>∃a_1 n_2 c_3 K',e= .returned (V3 a_1 n_2 c_3)∧SH w K [] w' K' [tail (V3 a_1 n_2 c_3) 3 1]∧b7 D6 K' a_1 n_2 c_3 r:=by
 rw [a16] at hm
 refine ci func40 rfl ntmps40 (sr (bx rfl hS fun G aM T=>?_))
 have U:SH _ _ _ _ _ [s7 G [V3 A a b,V3 B c d] 30]:=T
 refine lv (r_n rfl) (nr (b0 D6 underlying46 E6 U fun V aN H O W X=>(av rfl (O7 (lv (N2 rfl) (nq ?_))))))
 obtain⟨Y,aa,ab⟩:=ob hm
 refine l4 (fun E' w'=>∃f i k l,E'=[(3,V3 f i k)]∧SH w K [] w' l [tail (V3 f i k) 3 1]∧M0 H l∧b7 D6 l f i k Y) ?_ ?_
 ·refine j7 ?_
  obtain⟨aO,ac,ad⟩:=ob aa
  refine qw (fun (y:(List Int)×Int) E' w'=>∃m o q s,E'=[(1,pt G),(3,V3 m o q),(4,V6 y.2)]∧SH w K [] w' s [s7 G [V3 A a b,V3 B c d] 30,tail (V3 m o q) 3 1]∧M0 H s∧b7 D6 s m o q y.1∧i7 y.2) ac ⟨V,0,0,H,rfl,X.f1,kr,W,I5⟩ ?_
  rintro y _ aP aQ ae af ⟨m,o,q,s,rfl,x,C,R,aR⟩
  refine o4 (sr (mv rfl (fl L3 rfl a1b m0 x rfl (lv (q9 underlying27 rfl (J.mono (O.trans C))) (lv (u7 rfl rfl) (nq (D5 ae rfl (fun ag I=>?_) (fun ag I=>?_))))))))
  ·refine j3 (qs (j7 (j5 (mv rfl (fl L3 rfl a1b m0 x rfl (mv rfl ?_))))))
   obtain⟨D,ah,ai⟩:=ob I
   refine li underlying27 E8 (J.mono (O.trans C)) ah fun aj ak aS al am=>?_
   obtain⟨an,ao,ap,aq,ar,au,rfl,aw,aT,aU⟩:=al
   have ax:F1 _ aj ak [V6 D.Id,V3 an ao ap,V3 aq ar au]:=am
   refine fa P6 rfl (lv (y9 E6 rfl x (ax 0 _ rfl)) (lb D6 (V6 D.Id) [V6 D.Id] D.Id underlying46 E6 ⟨rfl,aw⟩ x fun aV aW aX S ay az=>?_))
   obtain⟨aY,aA,aB⟩:=ob ai
   refine lp underlying46 E6 (R.mono S) ay aA az.f2 fun aC aD aE aZ aF aG aH aI=>(av rfl (nb (l5 (j5 (mv rfl (lv (y7 rfl rfl) (av rfl (i8 ?_))))))))
   cases oi aB
   exact qd ⟨_,rfl,aC,aD,aE,aF,rfl,aI.f2.s,((C.trans S).trans aG),aH,(u0 _)⟩
  refine y4 (g8 (g8 ?_))
  cases oi I
  cases af _ rfl
  refine l6 ?_
  cases oi ad
  exact qd ⟨m,o,q,s,rfl,x.s,C,R⟩
 rintro _ ba ⟨f,i,k,l,rfl,aJ,bb,aK⟩
 refine qr (mv rfl (av rfl (nq (j9 ?_))))
 cases oi ab
 exact ey results40 ⟨f,i,k,l,rfl,aJ,aK⟩

theorem b0J {q0:List UInt8}{r:Bool}(hS:SH w K [] w K [])(bj:b7 tU8 K A a b q0)(hG6:a4i y6 1 c G8 w)(hD: ¬dr.D)(hm:a3i F q0=some r):
  Calls prog 9 #[V3 A a b] w (R_b w K r):=by
 rw [a3i] at hm
 refine ci func9 rfl ntmps9 (sr (lv (O6 rfl) (O7 (mv rfl (lv (q9 underlying22 rfl bj) (lv (E7 rfl rfl) (nq (R9 rfl (fun aV=>?_) (fun aV=>?_)))))))))
 ·have h8:=a1a aV hm
  refine sr (lv (r_t rfl) (nq (rr ?_)))
  cases oi h8
  exact ey results9 ⟨K,rfl,hS⟩
 have h8:=a09 aV hm
 refine j3 (qr (mv rfl ?_))
 obtain⟨f,bu,bv⟩:=ob h8
 refine lk c6T (a9p F hS.enter0 bj bu) ?_
 rintro dL dM ⟨G,H,I,J,O,R,q,s,x,y,B,C,W,X,Y,aa,ab,ac,dN,rfl,bx,ah,ai,S,ae,ak,am,an,ao,ap,aq⟩
 have bz:=(hS.c0 bx).t5
 refine mv rfl (lv (y3 rfl rfl) (lv (y3 rfl rfl) (lv (y3 rfl rfl) (al B9 bz fun af dO bA=>?_))))
 have bB:SH _ _ _ _ _ [s7 af [V3 none 0 0,V3 none 0 0] 26,_,_,_,_,_]:=bA
 refine al C4 bB fun ag dP bC=>?_
 have bD:SH _ _ _ _ _ [s7 ag [V3 none 0 0,V3 none 0 0] 30,_,_,_,_,_,_]:=bC
 refine al B1 bD fun aB dQ bE=>?_
 have bF:SH _ _ _ _ _ [s7 aB [V6 0,sv [],V3 none 0 0,V6 0,V6 0,V3 none 0 0] 35,_,_,_,_,_,_,_]:=bE
 refine lw [V3 G H I,V3 J O R] B9 bF.f2 fun dR bG=>(lw [V3 q s x,V3 y B C] C4 bG.f2 fun dS bH=>(lw [V6 f.2.2.Kind,sv f.2.2.Field,V3 W X Y,V6 f.2.2.From,V6 f.2.2.To,V3 aa ab ac] B1 bH.f2 fun dT ar=>(nr (lv (j6 (ds:=[V3 G H I,V3 J O R]) B9 rfl m2 ar rfl rfl) (lv (j6 (ds:=[V3 q s x,V3 y B C]) C4 rfl m1 ar rfl rfl) (lv (j6 (ds:=[V6 f.2.2.Kind,sv f.2.2.Field,V3 W X Y,V6 f.2.2.From,V6 f.2.2.To,V3 aa ab ac]) B1 rfl m0 ar rfl rfl) ?_))))))
 obtain⟨dU,bI,bJ⟩:=ob bv
 refine lk b6z (U2 F ar.enter0 ah ai S ae ak am an ao ap aq (hG6.keep ar) hD bI) ?_
 rintro dV dW ⟨aX,aY,aZ,bK,rfl,d,ba⟩
 have aC:=(ar.c0 d).t9
 refine av rfl (ns (o4 ?_))
 obtain⟨bL,bM,bN⟩:=ob bJ
 refine l4 (IV w K [] bK [(3,pt af),(4,pt ag),(5,pt aB),(6,V3 aX aY aZ),(39,.bool bL)] [s7 af [V3 G H I,V3 J O R] 26,s7 ag [V3 q s x,V3 y B C] 30,s7 aB [V6 f.2.2.Kind,sv f.2.2.Field,V3 W X Y,V6 f.2.2.From,V6 f.2.2.To,V3 aa ab ac] 35]) ?_ ?_
 ·refine j5 (mv rfl (lv (j6 (ds:=[V3 G H I,V3 J O R]) B9 rfl m3 aC rfl rfl) (lv (j6 (ds:=[V3 q s x,V3 y B C]) C4 rfl m2 aC rfl rfl) (lv (j6 (ds:=[V6 f.2.2.Kind,sv f.2.2.Field,V3 W X Y,V6 f.2.2.From,V6 f.2.2.To,V3 aa ab ac]) B1 rfl m1 aC rfl rfl) ?_))))
  obtain⟨dX,bO,bP⟩:=ob bM
  refine lk c6x (a7I F aC.enter0 (ah.mono d.le) (ai.mono d.le) (S.mono d.le) (ae.mono d.le) ak am (an.mono d.le) ao ap (aq.mono d.le) bO) ?_
  rintro dY dZ ⟨ea,eb,ec,ed,rfl,T,bQ⟩
  have bk:=(aC.c0 T).t10
  obtain⟨ee,bR,bS⟩:=ob bP
  refine lk c1F (a26 F bk.enter0 (ba.mono T.le) bQ bR) ?_
  rintro ef eg ⟨bT,rfl,V⟩
  have aD:=(bk.c0 V).t10
  refine lv (A4 rfl) (mv rfl (bt bS (fun U bb=>?_) (fun U bb=>?_)))
  ·refine lu U (lu U (lu U (lu U (lv (J6 rfl U rfl) (mv rfl (lu rfl (lu rfl (lu rfl (lv (J6 rfl rfl rfl) ?_)))))))))
   refine i8 ?_
   cases oi bb
   exact qd ⟨bT,rfl,aD.f2.f3.f4.s,(T.le.trans V.le)⟩
  refine lg U (j6 (ds:=[V3 G H I,V3 J O R]) B9 rfl m4 aD rfl rfl) (lg U (j6 (ds:=[V3 q s x,V3 y B C]) C4 rfl m3 aD rfl rfl) ?_)
  obtain⟨eh,bU,bV⟩:=ob bb
  refine A3 (wg rfl rfl U) rfl (A2 (vs:=[.agg #[V3 G H I,V3 J O R],.agg #[V3 q s x,V3 y B C]]) a9k rfl) (J1 F aD.enter0 (ah.mono ((d.le.trans T.le).trans V.le)) (ai.mono ((d.le.trans T.le).trans V.le)) (S.mono ((d.le.trans T.le).trans V.le)) (ae.mono ((d.le.trans T.le).trans V.le)) bU) ?_
  rintro ei ej ⟨bW,rfl,aE⟩
  refine⟨_,rfl,?_⟩
  have aF:=(aD.c0 aE).t10
  refine lg U (A4 rfl) (lv (l9 rfl U rfl) (mv rfl (bt bV (fun ad bc=>?_) (fun ad bc=>?_))))
  ·refine lu ad (lu ad (lu ad (lv (J6 rfl ad rfl) (i8 ?_))))
   cases oi bc
   exact qd ⟨bW,rfl,aF.f2.f3.f4.s,((T.le.trans V.le).trans aE.le)⟩
  refine lg ad (j6 (ds:=[V6 f.2.2.Kind,sv f.2.2.Field,V3 W X Y,V6 f.2.2.From,V6 f.2.2.To,V3 aa ab ac]) B1 rfl m2 aF rfl rfl) ?_
  obtain⟨ek,bX,bY⟩:=ob bc
  refine A3 (wg rfl rfl ad) rfl (A2 (vs:=[.agg #[V6 f.2.2.Kind,sv f.2.2.Field,V3 W X Y,V6 f.2.2.From,V6 f.2.2.To,V3 aa ab ac]]) b9U rfl) (a0J F aF.enter0 ak am (b7.mono (((d.le.trans T.le).trans V.le).trans aE.le) an) ao ap (b7.mono (((d.le.trans T.le).trans V.le).trans aE.le) aq) (hG6.keep aF) bX) ?_
  rintro el em ⟨bZ,rfl,bl⟩
  refine⟨_,rfl,?_⟩
  have ca:=(aF.c0 bl).t10
  refine lg ad (A4 rfl) (lv (l9 rfl ad rfl) (i8 ?_))
  cases oi bY
  exact qd ⟨bZ,rfl,ca.f2.f3.f4.s,(((T.le.trans V.le).trans aE.le).trans bl.le)⟩
 rintro _ en ⟨eo,rfl,au,i⟩
 refine l5 (D5 bN rfl (fun cb bd=>?_) (fun cb bd=>?_))
 ·refine sr (mv rfl (lv (j6 (ds:=[V3 G H I,V3 J O R]) B9 rfl m0 au rfl rfl) (lv (j6 (ds:=[V3 q s x,V3 y B C]) C4 rfl m1 au rfl rfl) (lv (j6 (ds:=[V6 f.2.2.Kind,sv f.2.2.Field,V3 W X Y,V6 f.2.2.From,V6 f.2.2.To,V3 aa ab ac]) B1 rfl m2 au rfl rfl) ?_))))
  obtain⟨ep,cc,cd⟩:=ob bd
  refine lk c6x (a7I F au.enter0 (ah.mono (d.le.trans i)) (ai.mono (d.le.trans i)) (S.mono (d.le.trans i)) (ae.mono (d.le.trans i)) ak am (an.mono (d.le.trans i)) ao ap (aq.mono (d.le.trans i)) cc) ?_
  rintro eq es ⟨et,eu,ev,ew,rfl,bm,ce⟩
  have bn:=(au.c0 bm).t4
  obtain⟨ex,cf,cg⟩:=ob cd
  refine lk c1F (a26 F bn.enter0 (ba.mono (i.trans bm.le)) ce cf) ?_
  rintro eA eB ⟨ch,rfl,cj⟩
  have ck:=(bn.c0 cj).t4
  refine av rfl (nq (rr ?_))
  cases oi cg
  exact ey results9 ⟨ch,rfl,ck.s⟩
 refine j3 (qr (b0 D6 underlying46 E6 au fun cl eC be k cm cn=>(av rfl (O7 (lv (N2 rfl) (nq ?_))))))
 obtain⟨cp,cq,cr⟩:=ob bd
 refine l4 (fun E' w'=>∃aN aO aP aG,E'=[(3,pt af),(4,pt ag),(6,V3 aX aY aZ),(7,V3 aN aO aP)]∧SH w K [] w' aG [s7 af [V3 G H I,V3 J O R] 26,s7 ag [V3 q s x,V3 y B C] 30,tail (V3 aN aO aP) 3 1]∧M0 be aG∧b7 D6 aG aN aO aP cp) ?_ ?_
 ·refine j7 ?_
  obtain⟨eD,ct,cu⟩:=ob cq
  refine qw (fun (aQ:(List Int)×Int) E' w'=>∃aw ax ay aH,E'=[(3,pt af),(4,pt ag),(5,pt aB),(6,V3 aX aY aZ),(7,V3 aw ax ay),(8,V6 aQ.2)]∧SH w K [] w' aH [s7 af [V3 G H I,V3 J O R] 26,s7 ag [V3 q s x,V3 y B C] 30,s7 aB [V6 f.2.2.Kind,sv f.2.2.Field,V3 W X Y,V6 f.2.2.From,V6 f.2.2.To,V3 aa ab ac] 35,tail (V3 aw ax ay) 3 1]∧M0 be aH∧b7 D6 aH aw ax ay aQ.1∧i7 aQ.2) ct ⟨cl,0,0,be,rfl,cn.f3.f3.f3,kr,cm,I5⟩ ?_
  rintro aQ _ eE eF cv cw ⟨aw,ax,ay,aH,rfl,aI,l,bf,eG⟩
  refine o4 (sr (mv rfl (fl L3 rfl a1b m1 aI rfl (lv (q9 underlying27 rfl (b7.mono (((d.le.trans i).trans k).trans l) S)) (lv (u7 rfl rfl) (nq (D5 cv rfl (fun cx bg=>?_) (fun cx bg=>?_))))))))
  ·refine j3 (qs (j7 (o4 (D4 mixed (by kernel_rfl) aI (kh (D8 (ds:=[V3 G H I,V3 J O R]) B9 rfl m0 rfl rfl) (kh (D8 (ds:=[V3 q s x,V3 y B C]) C4 rfl m1 rfl rfl) (kh (D8 (ds:=[V6 f.2.2.Kind,sv f.2.2.Field,V3 W X Y,V6 f.2.2.From,V6 f.2.2.To,V3 aa ab ac]) B1 rfl m2 rfl rfl) (kv (c7 L3 rfl) (kh (z6 a1b rfl m1 rfl) ?_)))))))))
   refine km rfl ?_
   obtain⟨cy,cz,cA⟩:=ob bg
   refine ki underlying27 E8 (b7.mono (((d.le.trans i).trans k).trans l) S) cz fun cB cC eH cD cE=>?_
   obtain⟨cF,cG,cH,cI,cJ,cK,rfl,bo,eI,eJ⟩:=cD
   have cL:F1 _ cB cC [V6 cy.Id,V3 cF cG cH,V3 cI cJ cK]:=cE
   refine kv (c7 P6 rfl) (kh (C1 E6 rfl (cL 0 _ rfl)) ?_)
   obtain⟨eK,bp,cM⟩:=ob cA
   refine kd b6x (fun _ _ bq az=>(P4 F) bq.enter0 (b7.mono ((((d.le.trans i).trans k).trans l).trans az) ah) (b7.mono ((((d.le.trans i).trans k).trans l).trans az) ai) (b7.mono ((((d.le.trans i).trans k).trans l).trans az) S) (b7.mono ((((d.le.trans i).trans k).trans l).trans az) ae) ak am (b7.mono ((((d.le.trans i).trans k).trans l).trans az) an) ao ap (b7.mono ((((d.le.trans i).trans k).trans l).trans az) aq) bo (hG6.keep bq) hD bp) ?_
   obtain⟨_,_,_,⟨_,_,_,eL⟩,_⟩:=(P4 F) aI.enter0 (b7.mono (((d.le.trans i).trans k).trans l) ah) (b7.mono (((d.le.trans i).trans k).trans l) ai) (b7.mono (((d.le.trans i).trans k).trans l) S) (b7.mono (((d.le.trans i).trans k).trans l) ae) ak am (b7.mono (((d.le.trans i).trans k).trans l) an) ao ap (b7.mono (((d.le.trans i).trans k).trans l) aq) bo (hG6.keep aI) hD bp []
   refine kv (E7 rfl rfl) (B4 ?_)
   rintro eM ⟨cN,aR,aJ⟩
   refine l5 (D5 cM rfl (fun cO bh=>?_) (fun cO bh=>?_))
   ·refine j5 (mv rfl (fl L3 rfl a1b m1 aR rfl (mv rfl ?_)))
    obtain⟨aS,cP,cQ⟩:=ob bh
    refine li underlying27 E8 (b7.mono ((((d.le.trans i).trans k).trans l).trans aJ) S) cP fun cR cS eN cT cU=>?_
    obtain⟨cV,cW,cX,cY,cZ,da,rfl,db,eO,eP⟩:=cT
    have dc:F1 _ cR cS [V6 aS.Id,V3 cV cW cX,V3 cY cZ da]:=cU
    refine fa P6 rfl (lv (y9 E6 rfl aR (dc 0 _ rfl)) (lb D6 (V6 aS.Id) [V6 aS.Id] aS.Id underlying46 E6 ⟨rfl,db⟩ aR fun eQ eR eS br dd de=>?_))
    obtain⟨eT,df,dg⟩:=ob cQ
    refine lp underlying46 E6 (bf.mono (aJ.trans br)) dd df de.f4 fun dh di dj eU dk dl dm dn=>(av rfl (nb (l5 (j5 (mv rfl (lv (y7 rfl rfl) (av rfl (i8 ?_))))))))
    cases oi dg
    exact qd ⟨_,rfl,dh,di,dj,dk,rfl,dn.f4.f4.f4.s,(((l.trans aJ).trans br).trans dl),dm,(u0 _)⟩
   refine j3 (x8 (l5 (j5 (mv rfl (lv (y7 rfl rfl) (av rfl (i8 ?_)))))))
   cases oi bh
   exact qd ⟨_,rfl,aw,ax,ay,cN,rfl,aR,(l.trans aJ),(bf.mono aJ),(u0 _)⟩
  refine y4 (g8 (g8 ?_))
  cases oi bg
  cases cw _ rfl
  refine l6 ?_
  cases oi cu
  exact qd ⟨aw,ax,ay,aH,rfl,aI.s,l,bf⟩
 rintro _ eV ⟨aN,aO,aP,aG,rfl,dp,aj,dq⟩
 refine qs ?_
 have aK:=dp.drew
 refine j_0 (fun w'=>H0 aG w'∧B0 af [V3 G H I,V3 J O R] w'∧B0 ag [V3 q s x,V3 y B C] w') 13 [] mixed ⟨aK.hasK kr,aK.hasObj m0,aK.hasObj m1⟩ (jv 0 rfl (i5 rfl) (jv 1 rfl (i5 rfl) (j1 2 rfl ?_)))
 obtain⟨eW,dt,du⟩:=ob cr
 refine lk c1F (a26 F aK.enter0 (ba.mono ((i.trans k).trans aj)) dq dt) ?_
 rintro eX eY ⟨dv,rfl,D⟩
 have o:=(aK.c0 D).t3
 refine P0 ⟨o.hasK D.le,o.hasObj m0,o.hasObj m1⟩ (jv 3 rfl (i5 rfl) (bt du (fun m bi=>?_) (fun m bi=>?_)))
 ·refine jk m 4 rfl (fun _ h=>A0 (ds:=[V3 G H I,V3 J O R]) B9 rfl rfl rfl h.2.1) (jk m 5 rfl (fun _ h=>A0 (ds:=[V3 q s x,V3 y B C]) C4 rfl rfl rfl h.2.2) (jg m 6 rfl (C3 (cs:=#[V6 1,sv [],V3 none 0 0,V6 0,V6 0,V3 none 0 0]) a7c B1 rfl (by kernel_rfl)) (jk m 8 rfl (fun _ h=>A0 (ds:=[V3 q s x,V3 y B C]) C4 rfl rfl rfl h.2.2) (j1 7 rfl ?_))))
  obtain⟨eZ,dw,dx⟩:=ob bi
  refine A3 (wg rfl rfl m) rfl (A2 (vs:=[.agg #[V3 G H I,V3 J O R],.agg #[V3 q s x,V3 y B C],.agg #[V6 1,sv [],V3 none 0 0,V6 0,V6 0,V3 none 0 0]]) b6z rfl) ((U2 F (q2:=(q7.mk (1:Int) ([]:r4) ([]:List r4) (0:Int) (0:Int) ([]:List q7)))) o.enter0 (b7.mono ((((d.le.trans i).trans k).trans aj).trans D.le) ah) (b7.mono ((((d.le.trans i).trans k).trans aj).trans D.le) ai) (b7.mono ((((d.le.trans i).trans k).trans aj).trans D.le) S) (b7.mono ((((d.le.trans i).trans k).trans aj).trans D.le) ae) (by decide :i7 1) (by decide :([]:r4).length≤maxLen) (b7.nil _ _) I5 I5 (b7.nil _ _) (hG6.keep o) hD dw) ?_
  rintro fb fc ⟨dy,dz,dA,fd,rfl,aA,dB⟩
  refine⟨_,rfl,?_⟩
  have aL:=(o.c0 aA).t4
  refine P0 ⟨aL.hasK (D.le.trans aA.le),aL.hasObj m1,aL.hasObj m2⟩ (j1 9 rfl ?_)
  obtain⟨fe,dC,dD⟩:=ob dx
  refine A3 (wg rfl rfl m) rfl (A2 (vs:=[.agg #[V3 q s x,V3 y B C]]) c6U rfl) (b1B F aL.enter0 (b7.mono (((((d.le.trans i).trans k).trans aj).trans D.le).trans aA.le) S) (b7.mono (((((d.le.trans i).trans k).trans aj).trans D.le).trans aA.le) ae) dC) ?_
  rintro fg fh ⟨dE,dF,dG,fi,rfl,aT,dH⟩
  refine⟨_,rfl,?_⟩
  have aM:=(aL.c0 aT).t5
  refine P0 ⟨aM.hasK ((D.le.trans aA.le).trans aT.le),aM.hasObj m2,aM.hasObj m3⟩ (j1 10 rfl ?_)
  obtain⟨fj,dI,dJ⟩:=ob dD
  refine A3 (wg rfl rfl m) rfl (A2 (vs:=[V3 dy dz dA,V3 dE dF dG]) c1F rfl) (a26 F aM.enter0 (dB.mono aT.le) dH dI) ?_
  rintro fk fm ⟨dK,rfl,bs⟩
  refine⟨_,rfl,?_⟩
  have aU:=(aM.c0 bs).t5
  refine P0 ⟨aU.hasK (((D.le.trans aA.le).trans aT.le).trans bs.le),aU.hasObj m2,aU.hasObj m3⟩ (jv 11 rfl (n9 rfl m rfl) (jv 12 rfl (u9 rfl) (jd (l5 (j9 ?_)))))
  cases oi dJ
  exact ey results9 ⟨dK,rfl,aU.s⟩
 refine ju m 4 rfl (ju m 5 rfl (ju m 6 rfl (ju m 8 rfl (j1 7 rfl (lu m (P0 ⟨o.hasK D.le,o.hasObj m0,o.hasObj m1⟩ (j1 9 rfl (lu m (P0 ⟨o.hasK D.le,o.hasObj m0,o.hasObj m1⟩ ?_)))))))))
 refine j1 10 rfl (lu m (P0 ⟨o.hasK D.le,o.hasObj m0,o.hasObj m1⟩ (jv 11 rfl (L8 rfl m rfl) (jv 12 rfl (u9 rfl) (jd (l5 (j9 ?_)))))))
 cases oi bi
 exact ey results9 ⟨dv,rfl,o.s⟩
end Go.Proofs.YtnloenhmkdpgeaaGreatDoor
