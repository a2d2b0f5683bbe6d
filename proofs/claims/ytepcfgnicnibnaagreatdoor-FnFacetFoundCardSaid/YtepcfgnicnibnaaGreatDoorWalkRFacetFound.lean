/-
 Walks of the functions. Printed by gen.py.
-/
import Derived.Test.YtepcfgnicnibnaaGreatDoorModelLFacetFound
import Derived.Test.YtepcfgnicnibnaaGreatDoorWalkA0
import Derived.Test.YtepcfgnicnibnaaGreatDoorWalkA2
import Derived.Test.YtepcfgnicnibnaaGreatDoorWalkA3
import Derived.Test.YtepcfgnicnibnaaGreatDoorWalkA4
import Derived.Test.YtepcfgnicnibnaaGreatDoorWalkA5
import Derived.Test.YtepcfgnicnibnaaGreatDoorWalkA6
set_option linter.unusedVariables false
set_option linter.unusedSectionVars false
set_option maxRecDepth 100000
namespace Go.Proofs.YtepcfgnicnibnaaGreatDoor
set_option maxHeartbeats 4000000
open Go Go.Fk Go.RowKit Tryz
variable (F:Nat){w:World}{K:F0}{Z:List Nat}{g1 g2 g3:Nat}{A B C D G H I J O R S T:Option Addr}{a b c d f i k l m n o p q s v x y aa ab ac ad ae af ag:Nat}
variable [dr:Dr]

theorem a8G {q0:z2}{r:r5×z2}(hS:SH w K Z w K [u9 g1 [V3 A a b,V6 q0.p_] 156])(aE:b7 tU8 K A a b q0.b_)(aF:i7 q0.p_)(hm:Y1 F q0=some r):
  Calls prog 62 #[.pointer (some ⟨g1,0,none⟩)] w fun e w'=>∃a_3 n_4 c_5 a_9 n_10 c_11 a_13 n_14 c_15 K',e= .returned (.agg #[V6 r.1.Kind,sv r.1.Field,V3 a_3 n_4 c_5,V6 r.1.From,V6 r.1.To,V3 a_9 n_10 c_11])∧SH w K Z w' K' [tail (V3 a_3 n_4 c_5) 9 1,tail (V3 a_9 n_10 c_11) 33 6,u9 g1 [V3 a_13 n_14 c_15,V6 r.2.p_] 156]∧i7 r.1.Kind∧r.1.Field.length≤maxLen∧b7 D8 K' a_3 n_4 c_5 r.1.Words∧i7 r.1.From∧i7 r.1.To∧b7 F3 K' a_9 n_10 c_11 r.1.Kids∧b7 tU8 K' a_13 n_14 c_15 r.2.b_∧i7 r.2.p_:=by
 rw [Y1] at hm
 refine ci func62 rfl ntmps62 (sr (al C6 hS fun g7 w9 aH=>?_))
 have aI:SH _ _ _ _ _ [u9 g7 [V6 0,sv [],V3 none 0 0,V6 0,V6 0,V3 none 0 0] 33,_]:=aH
 refine nr (mv rfl ?_)
 obtain⟨c,aJ,aK⟩:=ob hm
 have aj:=aI.f1
 refine lk b32 (a2A F aj.e1 aE aF (by decide :i7 3) aJ) ?_
 rintro bS bT ⟨d,f,i,k,l,m,bU,bV,bW,bX,rfl,aL,B,s,v,C,x,y,aM,aN⟩
 have aO:=(aj.c1 aL).t4
 refine al C6 aO fun aP bY aQ=>?_
 have aR:SH _ _ _ _ _ [u9 aP [V6 0,sv [],V3 none 0 0,V6 0,V6 0,V3 none 0 0] 33,_,_,_,_]:=aQ
 refine lw [V6 c.1.Kind,sv c.1.Field,V3 d f i,V6 c.1.From,V6 c.1.To,V3 k l m] C6 aR fun bZ aS=>(P6 (mv rfl ?_))
 obtain⟨ca,aT,aU⟩:=ob aK
 have ak:=aS.f3
 refine lk a2F (y8 F ak.e1 aM aN (by decide :i7 16) aT) ?_
 rintro cb cc ⟨V,W,X,aV,rfl,o,cd,D,G⟩
 have q:=(ak.c1 o).t5
 refine nq (j7 (sr (lv (A6 rfl rfl) (av rfl (nq (D4 aU rfl (fun aW Y=>?_) (fun aW Y=>?_)))))))
 ·refine j3 (mv rfl (H0 (t:=C9) (n:=3) (pv:=[(0,V6 0),(1,V6 11),(2,V6 7)]) (cs:=[V6 0,V6 11,V6 7]) (xs:=[(0:Int),(11:Int),(7:Int)]) wn rfl underlying51 E4 rfl rfl rfl (by kernel_rfl) rfl rfl (E7 (u:=V6 0) (z:=(0:Int)) ⟨rfl,M1⟩ (E7 (u:=V6 11) (z:=(11:Int)) ⟨rfl,(by decide :i7 11)⟩ (E7 (u:=V6 7) (z:=(7:Int)) ⟨rfl,(by decide :i7 7)⟩ a0o))) q fun ce cf cg aa aX aY=>?_))
  obtain⟨T,aZ,ba⟩:=ob Y
  have am:=aY.f1
  refine lk b9Z (U2 F am.e1 (D.mono aa) G aX aZ) ?_
  rintro ch cj ⟨bb,bc,bd,be,rfl,ab,bf,bg,bh⟩
  have bi:=(am.c1 ab).t6
  refine fa a5Y rfl (ls [V6 T.1,sv c.1.Field,V3 d f i,V6 c.1.From,V6 c.1.To,V3 k l m] (V6 T.1) E4 bi.f2 fun ck an=>(nb (qr (lv (n8 (ds:=[V6 T.1,sv c.1.Field,V3 d f i,V6 c.1.From,V6 c.1.To,V3 k l m]) C6 rfl m0 an rfl rfl) (lw [V6 T.1,sv c.1.Field,V3 d f i,V6 c.1.From,V6 c.1.To,V3 k l m] C6 an.f5 fun cl ao=>(nq (l3 ?_)))))))
  cases oi ba
  exact ez results62 C6 ao m0 ⟨d,f,i,k,l,m,bb,bc,bd,be,rfl,ao.f2.f5.f5.s,bf,s,(v.mono ((o.le.trans aa).trans ab.le)),C,x,(y.mono ((o.le.trans aa).trans ab.le)),bg,bh⟩
 refine sr (lv (A6 rfl rfl) (av rfl (nq (D4 Y rfl (fun bj ac=>?_) (fun bj ac=>?_)))))
 ·refine j3 (mv rfl (H0 (t:=C9) (n:=3) (pv:=[(0,V6 (-1)),(1,V6 10),(2,V6 1)]) (cs:=[V6 (-1),V6 10,V6 1]) (xs:=[(-1:Int),(10:Int),(1:Int)]) wn rfl underlying51 E4 rfl rfl rfl (by kernel_rfl) rfl rfl (E7 (u:=V6 (-1)) (z:=(-1:Int)) ⟨rfl,(by decide :i7 (-1))⟩ (E7 (u:=V6 10) (z:=(10:Int)) ⟨rfl,(by decide :i7 10)⟩ (E7 (u:=V6 1) (z:=(1:Int)) ⟨rfl,(by decide :i7 1)⟩ a0o))) q fun cm cn cp ad bk bl=>?_))
  obtain⟨U,bm,bn⟩:=ob ac
  have ap:=bl.f1
  refine lk b9Z (U2 F ap.e1 (D.mono ad) G bk bm) ?_
  rintro cq cr ⟨bo,bp,bq,br,rfl,ae,bs,bu,bv⟩
  have bx:=(ap.c1 ae).t6
  refine fa a0Q rfl (ls [V6 c.1.Kind,sv c.1.Field,V3 d f i,V6 U.1,V6 c.1.To,V3 k l m] (V6 U.1) E4 bx.f2 fun ct aq=>(nb (qr (lv (n8 (ds:=[V6 c.1.Kind,sv c.1.Field,V3 d f i,V6 U.1,V6 c.1.To,V3 k l m]) C6 rfl m0 aq rfl rfl) (lw [V6 c.1.Kind,sv c.1.Field,V3 d f i,V6 U.1,V6 c.1.To,V3 k l m] C6 aq.f5 fun cu ar=>(nq (l3 ?_)))))))
  cases oi bn
  exact ez results62 C6 ar m0 ⟨d,f,i,k,l,m,bo,bp,bq,br,rfl,ar.f2.f5.f5.s,B,s,(v.mono ((o.le.trans ad).trans ae.le)),bs,x,(y.mono ((o.le.trans ad).trans ae.le)),bu,bv⟩
 refine sr (lv (A6 rfl rfl) (av rfl (nq (D4 ac rfl (fun bz af=>?_) (fun bz af=>?_)))))
 ·refine j3 (fl Z9 rfl T1 m1 q rfl (lb D8 (sv [66,97,100]) [sv [66,97,100]] ([66,97,100]:q9) underlying23 H3 ⟨rfl,(by decide :([66,97,100]:q9).length≤maxLen)⟩ q fun cv cw cx ag bA bB=>?_))
  obtain⟨cy,bC,bD⟩:=ob af
  refine lp underlying23 H3 (v.mono (o.le.trans ag)) bA bC bB.f3 fun H I J cz bE au bF bG=>(fa Z9 rfl (ls [V6 c.1.Kind,sv c.1.Field,V3 H I J,V6 c.1.From,V6 c.1.To,V3 k l m] (V3 H I J) T1 bG.f3 fun cA aw=>(nb (qr (lv (n8 (ds:=[V6 c.1.Kind,sv c.1.Field,V3 H I J,V6 c.1.From,V6 c.1.To,V3 k l m]) C6 rfl m0 aw rfl rfl) (lw [V6 c.1.Kind,sv c.1.Field,V3 H I J,V6 c.1.From,V6 c.1.To,V3 k l m] C6 aw.f5 fun cB ax=>(nq (l3 ?_))))))))
  cases oi bD
  exact ez results62 C6 ax m0 ⟨H,I,J,k,l,m,V,W,X,bE,rfl,ax.f4.f5.f4.s,B,s,bF,C,x,(y.mono ((o.le.trans ag).trans au)),(D.mono (ag.trans au)),G⟩
 refine sr (lv (A6 rfl rfl) (av rfl (nq (D4 af rfl (fun bH ah=>?_) (fun bH ah=>?_)))))
 ·refine sr (lv (n8 (ds:=[V6 c.1.Kind,sv c.1.Field,V3 d f i,V6 c.1.From,V6 c.1.To,V3 k l m]) C6 rfl m1 q rfl rfl) (al C6 q fun bI cC bJ=>?_))
  have bK:SH _ _ _ _ _ [u9 bI [V6 0,sv [],V3 none 0 0,V6 0,V6 0,V3 none 0 0] 33,_,_,_,_,_]:=bJ
  refine lw [V6 c.1.Kind,sv c.1.Field,V3 d f i,V6 c.1.From,V6 c.1.To,V3 k l m] C6 bK fun cD ay=>(nq (j3 (lv (n8 (ds:=[V6 c.1.Kind,sv c.1.Field,V3 d f i,V6 c.1.From,V6 c.1.To,V3 k l m]) C6 rfl m0 ay rfl rfl) (lb F3 (.agg #[V6 c.1.Kind,sv c.1.Field,V3 d f i,V6 c.1.From,V6 c.1.To,V3 k l m]) [V6 c.1.Kind,sv c.1.Field,V3 d f i,V6 c.1.From,V6 c.1.To,V3 k l m] c.1 underlying31 C6 (Z1 ⟨d,f,i,k,l,m,rfl,B,s,(v.mono o.le),C,x,(y.mono o.le)⟩) ay fun cE cF cG ai bL az=>(fl T6 rfl a4H m3 az rfl ?_)))))
  obtain⟨cH,bM,bN⟩:=ob ah
  refine lp underlying31 C6 bL (y.mono (o.le.trans ai)) bM az fun O R S cI bO aA bP bQ=>(fa T6 rfl (ls [V6 c.1.Kind,sv c.1.Field,V3 d f i,V6 c.1.From,V6 c.1.To,V3 O R S] (V3 O R S) a4H bQ.f3 fun cJ aB=>(nb (qr (lv (n8 (ds:=[V6 c.1.Kind,sv c.1.Field,V3 d f i,V6 c.1.From,V6 c.1.To,V3 O R S]) C6 rfl m0 aB rfl rfl) (lw [V6 c.1.Kind,sv c.1.Field,V3 d f i,V6 c.1.From,V6 c.1.To,V3 O R S] C6 aB.f6 fun cK aC=>(nq (l3 ?_))))))))
  cases oi bN
  exact ez results62 C6 aC m0 ⟨d,f,i,O,R,S,V,W,X,bO,rfl,aC.f4.f3.f5.s,B,s,(v.mono ((o.le.trans ai).trans aA)),C,x,bP,(D.mono (ai.trans aA)),G⟩
 refine j5 (x9 (qr (lv (n8 (ds:=[V6 c.1.Kind,sv c.1.Field,V3 d f i,V6 c.1.From,V6 c.1.To,V3 k l m]) C6 rfl m1 q rfl rfl) (lw [V6 c.1.Kind,sv c.1.Field,V3 d f i,V6 c.1.From,V6 c.1.To,V3 k l m] C6 q.f4 fun cL aD=>(nq (l3 ?_))))))
 cases oi ah
 exact ez results62 C6 aD m0 ⟨d,f,i,k,l,m,V,W,X,aV,rfl,aD.f1.f4.f4.s,B,s,(v.mono o.le),C,x,(y.mono o.le),D,G⟩

theorem a8F {q0:List UInt8}{r:u5×A7×r5}(hS:SH w K [] w K [])(aD:b7 tU8 K A a b q0)(hm:Y0 F q0=some r):
  Calls prog 19 #[V3 A a b] w fun e w'=>∃a_1 n_2 c_3 a_5 n_6 c_7 a_9 n_10 c_11 a_13 n_14 c_15 a_19 n_20 c_21 a_25 n_26 c_27 K',e= .returned (.tuple #[.agg #[V3 a_1 n_2 c_3,V3 a_5 n_6 c_7],.agg #[V3 a_9 n_10 c_11,V3 a_13 n_14 c_15],.agg #[V6 r.2.2.Kind,sv r.2.2.Field,V3 a_19 n_20 c_21,V6 r.2.2.From,V6 r.2.2.To,V3 a_25 n_26 c_27]])∧SH w K [] w' K' [tail (V3 a_1 n_2 c_3) 9 1,tail (V3 a_5 n_6 c_7) 165 2,tail (V3 a_13 n_14 c_15) 104 3,tail (V3 a_19 n_20 c_21) 9 1,tail (V3 a_25 n_26 c_27) 33 6]∧b7 D8 K' a_1 n_2 c_3 r.1.Stops∧b7 L0 K' a_5 n_6 c_7 r.1.Syns∧b7 F8 K' a_9 n_10 c_11 r.2.1.Docs∧b7 B8 K' a_13 n_14 c_15 r.2.1.Entries∧i7 r.2.2.Kind∧r.2.2.Field.length≤maxLen∧b7 D8 K' a_19 n_20 c_21 r.2.2.Words∧i7 r.2.2.From∧i7 r.2.2.To∧b7 F3 K' a_25 n_26 c_27 r.2.2.Kids:=by
 rw [Y0] at hm
 refine ci func19 rfl ntmps19 (sr (al E2 hS fun g5 w6 aF=>?_))
 have aG:SH _ _ _ _ _ [u9 g5 [V3 none 0 0,V3 none 0 0] 26]:=aF
 refine al F2 aG fun g9 bO aI=>?_
 have aJ:SH _ _ _ _ _ [u9 g9 [V3 none 0 0,V3 none 0 0] 30,_]:=aI
 refine al C6 aJ fun aK bP aL=>?_
 have ap:SH _ _ _ _ _ [u9 aK [V6 0,sv [],V3 none 0 0,V6 0,V6 0,V3 none 0 0] 33,_,_]:=aL
 refine nr (mv rfl ?_)
 obtain⟨bQ,aM,aN⟩:=ob hm
 refine lk c4K (a4N F ap.enter0 aD aM) ?_
 rintro bR bS ⟨bT,bU,bV,bW,bX,rfl,aO,aP,aQ⟩
 have aq:=(ap.c0 aO).t4
 refine av rfl (nr (mv rfl ?_))
 obtain⟨bY,aR,aS⟩:=ob aN
 refine lk c4L (a3P F aq.e1 aP aQ aR) ?_
 rintro bZ ca ⟨d,f,i,k,l,m,o,q,s,v,x,y,cb,cc,cd,ce,rfl,aT,ar,au,aw,ax,aU,aV⟩
 have aW:=(aq.c1 aT).t7
 refine mv rfl (lv (B2 rfl rfl) (lv (B2 rfl rfl) (al E2 aW fun Y cf aX=>?_)))
 have aY:SH _ _ _ _ _ [u9 Y [V3 none 0 0,V3 none 0 0] 26,_,_,_,_,_,_,_]:=aX
 refine al F2 aY fun aa cg aZ=>?_
 have ba:SH _ _ _ _ _ [u9 aa [V3 none 0 0,V3 none 0 0] 30,_,_,_,_,_,_,_,_]:=aZ
 refine lw [V3 d f i,V3 k l m] E2 ba.f1 fun ch bb=>(lw [V3 o q s,V3 v x y] F2 bb.f1 fun cj bc=>(P6 (mv rfl ?_)))
 obtain⟨ck,bd,be⟩:=ob aS
 have ay:=bc.f5
 refine lk a2F (y8 F ay.e1 aU aV (by decide :i7 10) bd) ?_
 rintro cl cm ⟨cn,cp,cq,az,rfl,B,cr,aA,aB⟩
 have aC:=(ay.c1 B).t9
 refine lv (A6 rfl rfl) (nq (D4 be rfl (fun bf ab=>?_) (fun bf ab=>?_)))
 ·refine p9 ?_
  have O:=aC.drew
  refine wh1 (fun w'=>G8 az w'∧A9 Y [V3 d f i,V3 k l m] w'∧A9 aa [V3 o q s,V3 v x y] w') (fun w'=>True) 7 [] mixed ⟨O.hasK kr,O.hasObj m2,O.hasObj m1⟩ (fun _=>trivial) (gh (fun _ h=>B4 (ds:=[V3 d f i,V3 k l m]) E2 rfl rfl rfl h.2.1) (gh (fun _ h=>B4 (ds:=[V3 o q s,V3 v x y]) F2 rfl rfl rfl h.2.2) (gt (i5 rfl) (gn ?_))))
  obtain⟨G,bg,bh⟩:=ob ab
  refine lk c7l (a8G F O.e1 aA aB bg) ?_
  rintro ct cu ⟨ac,ad,ae,af,ag,ah,cv,cw,cx,bi,rfl,C,bj,bk,bl,bm,bn,bo,cy,cz⟩
  have S:=(O.c1 C).t11
  refine i8 (qh ⟨S.hasK C.le,S.hasObj m4,S.hasObj m3⟩ (fun _=>trivial) (gn ?_))
  have bp:SH _ _ _ _ _ [_,_,_,_,_,_,_,_,_,_,_]:=SH.front (p:=[_,_,_,_,_,_,_,_,_,_]) S
  refine lw [V3 d f i,V3 k l m] E2 bp fun cA T=>(i8 (qh ⟨T.hasK C.le,T.hasObj m5,T.hasObj m4⟩ (fun _=>trivial) (gn ?_)))
  have bq:SH _ _ _ _ _ [_,_,_,_,_,_,_,_,_,_,_]:=SH.front (p:=[_,_,_,_,_,_,_,_,_,_]) T
  refine lw [V3 o q s,V3 v x y] F2 bq fun cB U=>(i8 (qh ⟨U.hasK C.le,U.hasObj m6,U.hasObj m5⟩ (fun _=>trivial) (gn ?_)))
  have br:SH _ _ _ _ _ [_,_,_,_,_,_,_,_,_,_,_]:=SH.front (p:=[_,_,_,_,_,_,_,_,_,_]) U
  refine lw [V6 G.1.Kind,sv G.1.Field,V3 ac ad ae,V6 G.1.From,V6 G.1.To,V3 af ag ah] C6 br fun cC I=>(i8 (qh ⟨I.hasK C.le,I.hasObj m7,I.hasObj m6⟩ (fun _=>trivial) (gd' (l4 (rr ?_)))))
  cases oi bh
  have bs:SH _ _ _ _ _ [_,_,_,_,_,_,_,_,_,_,_]:=SH.front (p:=[_,_,_,_,_,_,_,_,_,_]) I.f4.f4
  have bu:SH _ _ _ _ _ [_,_,_,_,_,_,_,_,_,_,_]:=SH.front (p:=[_,_,_,_,_,_,_,_,_,_]) bs
  have bv:SH _ _ _ _ _ [_,_,_,_,_,_,_,_,_,_,_]:=SH.front (p:=[_,_,_,_,_,_,_,_,_,_]) bu
  exact R6 (vs:=[_,_,_]) results19 ⟨⟨_,_,rfl,A5 E2 (cs:=[V3 d f i,V3 k l m]) (fun j c e=>by rw [Nat.zero_add,I.mem_obj m2];exact e) (.inl ⟨rfl,rfl,rfl⟩)⟩,⟨_,_,rfl,A5 F2 (cs:=[V3 o q s,V3 v x y]) (fun j c e=>by rw [Nat.zero_add,I.mem_obj m1];exact e) (.inl ⟨rfl,rfl,rfl⟩)⟩,⟨_,_,rfl,A5 C6 (cs:=[V6 G.1.Kind,sv G.1.Field,V3 ac ad ae,V6 G.1.From,V6 G.1.To,V3 af ag ah]) (fun j c e=>by rw [Nat.zero_add,I.mem_obj m0];exact e) (.inl ⟨rfl,rfl,rfl⟩)⟩,trivial⟩ ⟨d,f,i,k,l,m,o,q,s,v,x,y,ac,ad,ae,af,ag,ah,bi,rfl,bv.s,(ar.mono (B.le.trans C.le)),(au.mono (B.le.trans C.le)),(aw.mono (B.le.trans C.le)),(ax.mono (B.le.trans C.le)),bj,bk,bl,bm,bn,bo⟩
 refine j5 (qs ?_)
 have R:=aC.drew
 refine wh1 (fun w'=>G8 az w'∧A9 Y [V3 d f i,V3 k l m] w'∧A9 aa [V3 o q s,V3 v x y] w') (fun w'=>True) 7 [] mixed ⟨R.hasK kr,R.hasObj m2,R.hasObj m1⟩ (fun _=>trivial) (gh (fun _ h=>B4 (ds:=[V3 d f i,V3 k l m]) E2 rfl rfl rfl h.2.1) (gh (fun _ h=>B4 (ds:=[V3 o q s,V3 v x y]) F2 rfl rfl rfl h.2.2) (gt (i5 rfl) (gn ?_))))
 obtain⟨H,bx,bz⟩:=ob ab
 refine lk b32 (a2A F R.e1 aA aB (by decide :i7 3) bx) ?_
 rintro cD cE ⟨ai,aj,ak,am,an,ao,cF,cG,cH,bA,rfl,D,bB,bC,bD,bE,bF,bG,cI,cJ⟩
 have V:=(R.c1 D).t11
 refine i8 (qh ⟨V.hasK D.le,V.hasObj m4,V.hasObj m3⟩ (fun _=>trivial) (gn ?_))
 have bH:SH _ _ _ _ _ [_,_,_,_,_,_,_,_,_,_,_]:=SH.front (p:=[_,_,_,_,_,_,_,_,_,_]) V
 refine lw [V3 d f i,V3 k l m] E2 bH fun cK W=>(i8 (qh ⟨W.hasK D.le,W.hasObj m5,W.hasObj m4⟩ (fun _=>trivial) (gn ?_)))
 have bI:SH _ _ _ _ _ [_,_,_,_,_,_,_,_,_,_,_]:=SH.front (p:=[_,_,_,_,_,_,_,_,_,_]) W
 refine lw [V3 o q s,V3 v x y] F2 bI fun cL X=>(i8 (qh ⟨X.hasK D.le,X.hasObj m6,X.hasObj m5⟩ (fun _=>trivial) (gn ?_)))
 have bJ:SH _ _ _ _ _ [_,_,_,_,_,_,_,_,_,_,_]:=SH.front (p:=[_,_,_,_,_,_,_,_,_,_]) X
 refine lw [V6 H.1.Kind,sv H.1.Field,V3 ai aj ak,V6 H.1.From,V6 H.1.To,V3 am an ao] C6 bJ fun cM J=>(i8 (qh ⟨J.hasK D.le,J.hasObj m7,J.hasObj m6⟩ (fun _=>trivial) (gd' (l4 (l3 ?_)))))
 cases oi bz
 have bK:SH _ _ _ _ _ [_,_,_,_,_,_,_,_,_,_,_]:=SH.front (p:=[_,_,_,_,_,_,_,_,_,_]) J.f4.f4
 have bL:SH _ _ _ _ _ [_,_,_,_,_,_,_,_,_,_,_]:=SH.front (p:=[_,_,_,_,_,_,_,_,_,_]) bK
 have bM:SH _ _ _ _ _ [_,_,_,_,_,_,_,_,_,_,_]:=SH.front (p:=[_,_,_,_,_,_,_,_,_,_]) bL
 exact R6 (vs:=[_,_,_]) results19 ⟨⟨_,_,rfl,A5 E2 (cs:=[V3 d f i,V3 k l m]) (fun j c e=>by rw [Nat.zero_add,J.mem_obj m2];exact e) (.inl ⟨rfl,rfl,rfl⟩)⟩,⟨_,_,rfl,A5 F2 (cs:=[V3 o q s,V3 v x y]) (fun j c e=>by rw [Nat.zero_add,J.mem_obj m1];exact e) (.inl ⟨rfl,rfl,rfl⟩)⟩,⟨_,_,rfl,A5 C6 (cs:=[V6 H.1.Kind,sv H.1.Field,V3 ai aj ak,V6 H.1.From,V6 H.1.To,V3 am an ao]) (fun j c e=>by rw [Nat.zero_add,J.mem_obj m0];exact e) (.inl ⟨rfl,rfl,rfl⟩)⟩,trivial⟩ ⟨d,f,i,k,l,m,o,q,s,v,x,y,ai,aj,ak,am,an,ao,bA,rfl,bM.s,(ar.mono (B.le.trans D.le)),(au.mono (B.le.trans D.le)),(aw.mono (B.le.trans D.le)),(ax.mono (B.le.trans D.le)),bB,bC,bD,bE,bF,bG⟩

theorem a69 {q0:u5}{q1:A7}{q2:r5}{r:(List Int)}(hS:SH w K [] w K [])(ah:b7 D8 K A a b q0.Stops)(ai:b7 L0 K B c d q0.Syns)(aj:b7 F8 K C f i q1.Docs)(ak:b7 B8 K D k l q1.Entries)(am:i7 q2.Kind)(an:q2.Field.length≤maxLen)(ao:b7 D8 K G m n q2.Words)(ap:i7 q2.From)(aq:i7 q2.To)(ar:b7 F3 K H o p q2.Kids)(hG30:a5U C5 0 q L3 w)(hD: ¬dr.D)(hm:Q8 F q0 q1 q2=some r):
  Calls prog 20 #[.agg #[V3 A a b,V3 B c d],.agg #[V3 C f i,V3 D k l],.agg #[V6 q2.Kind,sv q2.Field,V3 G m n,V6 q2.From,V6 q2.To,V3 H o p]] w fun e w'=>∃a_1 n_2 c_3 K',e= .returned (V3 a_1 n_2 c_3)∧SH w K [] w' K' [tail (V3 a_1 n_2 c_3) 3 1]∧b7 C9 K' a_1 n_2 c_3 r:=by
 rw [Q8] at hm
 refine ci func20 rfl ntmps20 (sr (bx rfl hS fun au bv aw=>?_))
 have ax:SH _ _ _ _ _ [u9 au [V3 A a b,V3 B c d] 26]:=aw
 refine bx rfl ax fun ay bz az=>?_
 have aA:SH _ _ _ _ _ [u9 ay [V3 C f i,V3 D k l] 30,_]:=az
 refine bx rfl aA fun aB bA aC=>?_
 have aD:SH _ _ _ _ _ [u9 aB [V6 q2.Kind,sv q2.Field,V3 G m n,V6 q2.From,V6 q2.To,V3 H o p] 33,_,_]:=aC
 refine lv (r_n rfl) (nr (b0 C9 underlying51 E4 aD fun aE bB bC x aF y=>(av rfl (P6 (lv (n8 (ds:=[V3 A a b,V3 B c d]) E2 rfl m3 y rfl rfl) (lv (n8 (ds:=[V3 C f i,V3 D k l]) F2 rfl m2 y rfl rfl) (lv (n8 (ds:=[V6 q2.Kind,sv q2.Field,V3 G m n,V6 q2.From,V6 q2.To,V3 H o p]) C6 rfl m1 y rfl rfl) ?_)))))))
 obtain⟨aG,aH,aI⟩:=ob hm
 refine lk c1G (a2k F y.enter0 (ah.mono x) (ai.mono x) (aj.mono x) (ak.mono x) am an (ao.mono x) ap aq (ar.mono x) (hG30.keep y) hD aH) ?_
 rintro bD bE ⟨aJ,aK,aL,Y,rfl,ad,aa⟩
 have aM:=(y.c0 ad).t5
 refine lv (q7 underlying39 rfl aa) (lv (r_m rfl) (nq ?_))
 obtain⟨aN,aO,aP⟩:=ob aI
 refine l6 (fun E' w'=>∃S T U V,E'=[(7,V3 S T U)]∧SH w K [] w' V [tail (V3 S T U) 3 1]∧I9 Y V∧b7 C9 V S T U aN) ?_ ?_
 ·refine j7 ?_
  obtain⟨bF,aQ,aR⟩:=ob aO
  have aS:=aM.sb (sd (sk (sd (sd (sd sz)))))
  refine qF (fun (ae:Nat) (ab:(List Int)) E' w'=>∃I J O R,E'=[(7,V3 I J O),(14,V3 aJ aK aL),(15,V6 (aG.length:Int)),(16,V6 ((ae:Nat):Int))]∧SH w K [] w' R [tail (V3 I J O) 3 1]∧I9 Y R∧b7 C9 R I J O ab) aQ ⟨aE,0,0,Y,rfl,aS,kr,(aF.mono ad.le)⟩ ?_ ?_
  ·rintro ae ab _ aT bG hi88 aU ⟨I,J,O,R,rfl,W,X,ac⟩
   refine sr (lv (s7 rfl rfl) (ns (C2 rfl (b8 (by omega)) (j5 (l4 (p9 (j7 (sr ?_))))))))
   obtain⟨s,aV,aW⟩:=ob aU
   refine li underlying39 M6 (aa.mono X) aV fun aX aY bH aZ ba=>?_
   obtain⟨rfl,bb,bI⟩:=aZ
   have bc:E9 _ aX aY [V6 s.Doc,V6 s.Points]:=ba
   refine lv (F5 M6 rfl W bc rfl) (al M6 W fun bd bJ be=>?_)
   have bf:SH _ _ _ _ _ [u9 bd [V6 0,V6 0] 45,_]:=be
   refine lw [V6 s.Doc,V6 s.Points] M6 bf fun bK af=>(nq (j3 (mv rfl (fl a86 rfl E4 m0 af rfl (lb C9 (V6 s.Doc) [V6 s.Doc] s.Doc underlying51 E4 ⟨rfl,bb⟩ af fun bL bM bN ag bg bh=>?_)))))
   obtain⟨bO,bi,bj⟩:=ob aW
   refine lp underlying51 E4 (ac.mono ag) bg bi bh.f2 fun bk bl bm bP bn bo bp bq=>(av rfl (nb (qg (lv (A3 rfl rfl (B5 hi88 (b7.max aa))) (mv rfl (i8 ?_))))))
   cases oi bj
   exact qd ⟨bk,bl,bm,bn,rfl,bq.s,((X.trans ag).trans bo),bp⟩
  rintro ab _ aT br ⟨I,J,O,R,rfl,W,X,ac⟩
  subst br
  refine sr (lv (s7 rfl rfl) (ns (C1 rfl (c6 (by omega)) (w8 (g6 (g6 (l5 ?_)))))))
  cases oi aR
  exact qd ⟨I,J,O,R,rfl,W,X,ac⟩
 rintro _ bQ ⟨S,T,U,V,rfl,bs,bR,bu⟩
 refine qr (mv rfl (av rfl (nq (l3 ?_))))
 cases oi aP
 exact ey results20 ⟨S,T,U,V,rfl,bs,bu⟩

theorem a7Q {q0:List Int}{q1:List Int}{r:Bool}(hS:SH w K [] w K [])(k:b7 C9 K A a b q0)(x:b7 C9 K B c d q1)(hm:a1D F q0 q1=some r):
  Calls prog 21 #[V3 A a b,V3 B c d] w (R_b w K r):=by
 rw [a1D] at hm
 refine ci func21 rfl ntmps21 (sr (lv (P2 rfl) (P6 (mv rfl (lv (q7 underlying51 rfl k) (mv rfl (lv (q7 underlying51 rfl x) (lv (S7 rfl rfl) (nq ?_)))))))))
 refine P1 rfl (fun l=>?_) (fun l=>?_)
 ·have m:=Z8 l hm
  refine sr (lv (P2 rfl) (nq (rr ?_)))
  cases oi m
  exact ey results21 ⟨K,rfl,hS⟩
 have m:=Z7 l hm
 refine j5 (qs (sr (lv (N4 rfl) (nq ?_))))
 obtain⟨I,J,i⟩:=ob m
 refine l6 (IE I w K [] K [] []) ?_ ?_
 ·refine j7 ?_
  obtain⟨ap,O,y⟩:=ob J
  refine qw (fun (o:Int)=>IW w K [] K [(0,V3 A a b),(1,V3 B c d),(5,V6 o)] [] (i7 o)) O ⟨K,rfl,hS,kr,M1⟩ ?_
  rintro o _ aq ar R C ⟨S,rfl,D,f,au⟩
  refine p9 (sr (mv rfl (mv rfl (lv (q7 underlying51 rfl (k.mono f)) (lv (s7 rfl rfl) (nq (D4 R rfl (fun T q=>?_) (fun T q=>?_))))))))
  ·refine j5 (qs (j7 (p9 (E1 mixed (by kernel_rfl) D (km rfl (km rfl ?_))))))
   obtain⟨U,V,W⟩:=ob q
   refine ki underlying51 E4 (k.mono f) V fun X Y aw aa ab=>?_
   obtain⟨rfl,ax⟩:=aa
   have ac:E9 _ X Y [V6 U]:=ab
   refine kh (B6 E4 rfl (ac 0 _ rfl)) (km rfl (km rfl ?_))
   obtain⟨ad,ae,af⟩:=ob W
   refine ki underlying51 E4 (x.mono f) ae fun ag ah ay ai aj=>?_
   obtain⟨rfl,az⟩:=ai
   have ak:E9 _ ag ah [V6 ad]:=aj
   refine kh (B6 E4 rfl (ak 0 _ rfl)) (kv (S7 rfl rfl) (B7 ?_))
   rintro aA ⟨G,H,al⟩
   refine l4 (D4 af rfl (fun am s=>?_) (fun am s=>?_))
   ·refine sr (lv (P2 rfl) (nq (l3 (j6 (g8 (g8 ?_))))))
    cases oi s
    cases C _ rfl
    refine j6 (g8 ?_)
    cases oi y
    refine g8 ?_
    cases oi i
    exact ey results21 ⟨G,rfl,H⟩
   refine j5 (x9 (l4 (j3 (mv rfl (lv (y4 rfl rfl) (av rfl (i8 ?_)))))))
   cases oi s
   exact qd ⟨_,rfl,G,rfl,H,(f.trans al),(s6 _)⟩
  refine w8 (g6 (g6 ?_))
  cases oi q
  cases C _ rfl
  refine l5 ?_
  cases oi y
  exact H9 ⟨_,S,rfl,rfl,D,f⟩ trivial
 rintro _ aB ⟨aC,an,rfl,rfl,ao,aD⟩
 have i:=F6 i
 refine qr (lv (r_t rfl) (nq (l3 ?_)))
 cases oi i
 exact ey results21 ⟨an,rfl,ao⟩

theorem a7b {q0:u5}{q1:A7}{q2:r5}{r:(List Int)}(hS:SH w K [] w K [])(am:b7 D8 K A a b q0.Stops)(an:b7 L0 K B c d q0.Syns)(I:b7 F8 K C f i q1.Docs)(ao:b7 B8 K D k l q1.Entries)(ap:i7 q2.Kind)(aq:q2.Field.length≤maxLen)(ar:b7 D8 K G m n q2.Words)(au:i7 q2.From)(aw:i7 q2.To)(ax:b7 F3 K H o p q2.Kids)(hm:a0J F q0 q1 q2=some r):
  Calls prog 22 #[.agg #[V3 A a b,V3 B c d],.agg #[V3 C f i,V3 D k l],.agg #[V6 q2.Kind,sv q2.Field,V3 G m n,V6 q2.From,V6 q2.To,V3 H o p]] w fun e w'=>∃a_1 n_2 c_3 K',e= .returned (V3 a_1 n_2 c_3)∧SH w K [] w' K' [tail (V3 a_1 n_2 c_3) 3 1]∧b7 C9 K' a_1 n_2 c_3 r:=by
 rw [a0J] at hm
 refine ci func22 rfl ntmps22 (sr (bx rfl hS fun T cg aJ=>?_))
 have aK:SH _ _ _ _ _ [u9 T [V3 A a b,V3 B c d] 26]:=aJ
 refine bx rfl aK fun U ch aL=>?_
 have aM:SH _ _ _ _ _ [u9 U [V3 C f i,V3 D k l] 30,_]:=aL
 refine bx rfl aM fun V cj aN=>?_
 have aO:SH _ _ _ _ _ [u9 V [V6 q2.Kind,sv q2.Field,V3 G m n,V6 q2.From,V6 q2.To,V3 H o p] 33,_,_]:=aN
 refine lv (r_n rfl) (nr (b0 C9 underlying51 E4 aO fun ae ck aP q aD af=>(av rfl (ns (p9 ?_)))))
 obtain⟨aQ,aR,aS⟩:=ob hm
 refine l6 (IV w K [] aP [(3,pt T),(4,pt U),(5,pt V),(7,V3 ae 0 0),(18,.bool aQ)] [u9 T [V3 A a b,V3 B c d] 26,u9 U [V3 C f i,V3 D k l] 30,u9 V [V6 q2.Kind,sv q2.Field,V3 G m n,V6 q2.From,V6 q2.To,V3 H o p] 33,tail (V3 ae 0 0) 3 1]) ?_ ?_
 ·refine j3 (lv (n8 (ds:=[V3 A a b,V3 B c d]) E2 rfl m3 af rfl rfl) (lv (n8 (ds:=[V3 C f i,V3 D k l]) F2 rfl m2 af rfl rfl) ?_))
  obtain⟨cl,aT,aU⟩:=ob aR
  refine lk c4M (a6Q F af.enter0 (am.mono q) (an.mono q) (I.mono q) (ao.mono q) aT) ?_
  rintro cm cn ⟨aV,rfl,W⟩
  have ag:=(af.c0 W).t4
  refine lv (A4 rfl) (mv rfl (bt aU (fun y ay=>?_) (fun y ay=>?_)))
  ·refine lu y (lu y (lu y (lv (L8 rfl y rfl) (i8 ?_))))
   cases oi ay
   exact qd ⟨aV,rfl,ag.f1.f2.f3,W.le⟩
  refine lg y (n8 (ds:=[V6 q2.Kind,sv q2.Field,V3 G m n,V6 q2.From,V6 q2.To,V3 H o p]) C6 rfl m1 ag rfl rfl) ?_
  obtain⟨cp,aW,aX⟩:=ob ay
  refine A0 (wg rfl rfl y) rfl (z7 (vs:=[.agg #[V6 q2.Kind,sv q2.Field,V3 G m n,V6 q2.From,V6 q2.To,V3 H o p]]) c4N rfl) (a59 F ag.enter0 ap aq (ar.mono (q.trans W.le)) au aw (ax.mono (q.trans W.le)) aW) ?_
  rintro cq cr ⟨aY,rfl,aE⟩
  refine⟨_,rfl,?_⟩
  have aZ:=(ag.c0 aE).t4
  refine lg y (A4 rfl) (lv (o4 rfl y rfl) (i8 ?_))
  cases oi aX
  exact qd ⟨aY,rfl,aZ.f1.f2.f3,(W.le.trans aE.le)⟩
 rintro _ cs ⟨ah,rfl,aF,x⟩
 refine l4 (D4 aS rfl (fun ba az=>?_) (fun ba az=>?_))
 ·refine sr (mv rfl (av rfl (nq (rr ?_))))
  cases oi az
  exact ey results22 ⟨ae,0,0,ah,rfl,aF.s,(aD.mono x)⟩
 refine j5 (qs (sr (lv (N4 rfl) (nq ?_))))
 obtain⟨bb,bc,bd⟩:=ob az
 refine l6 (fun E' w'=>∃X Y aa ab,E'=[(7,V3 X Y aa)]∧SH w K [] w' ab [tail (V3 X Y aa) 3 1]∧I9 ah ab∧b7 C9 ab X Y aa bb) ?_ ?_
 ·refine j7 ?_
  obtain⟨ct,be,bf⟩:=ob bc
  refine qw (fun (ai:(List Int)×Int) E' w'=>∃J O R ac,E'=[(3,pt T),(4,pt U),(5,pt V),(7,V3 J O R),(8,V6 ai.2)]∧SH w K [] w' ac [u9 T [V3 A a b,V3 B c d] 26,u9 U [V3 C f i,V3 D k l] 30,u9 V [V6 q2.Kind,sv q2.Field,V3 G m n,V6 q2.From,V6 q2.To,V3 H o p] 33,tail (V3 J O R) 3 1]∧I9 ah ac∧b7 C9 ac J O R ai.1∧i7 ai.2) be ⟨ae,0,0,ah,rfl,aF,kr,(aD.mono x),M1⟩ ?_
  rintro ai _ cu cv bg bh ⟨J,O,R,ac,rfl,aj,s,aA,cw⟩
  refine p9 (sr (mv rfl (fl S5 rfl a4l m1 aj rfl (lv (q7 underlying27 rfl (I.mono ((q.trans x).trans s))) (lv (s7 rfl rfl) (nq (D4 bg rfl (fun bi aB=>?_) (fun bi aB=>?_))))))))
  ·refine j5 (qs (j7 (p9 (E1 mixed (by kernel_rfl) aj (kh (J7 (ds:=[V3 A a b,V3 B c d]) E2 rfl m0 rfl rfl) (kh (J7 (ds:=[V3 C f i,V3 D k l]) F2 rfl m1 rfl rfl) (kh (J7 (ds:=[V6 q2.Kind,sv q2.Field,V3 G m n,V6 q2.From,V6 q2.To,V3 H o p]) C6 rfl m2 rfl rfl) (kv (c9 S5 rfl) (kh (z6 a4l rfl m1 rfl) ?_)))))))))
   refine km rfl ?_
   obtain⟨bj,bk,bl⟩:=ob aB
   refine ki underlying27 F7 (I.mono ((q.trans x).trans s)) bk fun bm bn cx bo bp=>?_
   obtain⟨bq,br,bs,bu,bv,bz,rfl,aG,cy,cz⟩:=bo
   have bA:E9 _ bm bn [V6 bj.Id,V3 bq br bs,V3 bu bv bz]:=bp
   refine kv (c9 S6 rfl) (kh (B6 E4 rfl (bA 0 _ rfl)) ?_)
   obtain⟨cA,aH,bB⟩:=ob bl
   refine kd b73 (fun _ _ bC S=>(X4 F) bC.enter0 (b7.mono (((q.trans x).trans s).trans S) am) (b7.mono (((q.trans x).trans s).trans S) an) (b7.mono (((q.trans x).trans s).trans S) I) (b7.mono (((q.trans x).trans s).trans S) ao) ap aq (b7.mono (((q.trans x).trans s).trans S) ar) au aw (b7.mono (((q.trans x).trans s).trans S) ax) aG aH) ?_
   obtain⟨_,_,_,⟨_,_,_,cB⟩,_⟩:=(X4 F) aj.enter0 (am.mono ((q.trans x).trans s)) (an.mono ((q.trans x).trans s)) (I.mono ((q.trans x).trans s)) (ao.mono ((q.trans x).trans s)) ap aq (ar.mono ((q.trans x).trans s)) au aw (ax.mono ((q.trans x).trans s)) aG aH []
   refine kv (F9 rfl rfl) (B7 ?_)
   rintro cC ⟨bD,ak,ad⟩
   refine l4 (D4 bB rfl (fun bE aC=>?_) (fun bE aC=>?_))
   ·refine j3 (mv rfl (fl S5 rfl a4l m1 ak rfl (mv rfl ?_)))
    obtain⟨al,bF,bG⟩:=ob aC
    refine li underlying27 F7 (b7.mono (((q.trans x).trans s).trans ad) I) bF fun bH bI cD bJ bK=>?_
    obtain⟨bL,bM,bN,bO,bP,bQ,rfl,bR,cE,cF⟩:=bJ
    have bS:E9 _ bH bI [V6 al.Id,V3 bL bM bN,V3 bO bP bQ]:=bK
    refine fa S6 rfl (lv (y7 E4 rfl ak (bS 0 _ rfl)) (lb C9 (V6 al.Id) [V6 al.Id] al.Id underlying51 E4 ⟨rfl,bR⟩ ak fun cG cH cI aI bT bU=>?_))
    obtain⟨cJ,bV,bW⟩:=ob bG
    refine lp underlying51 E4 (aA.mono (ad.trans aI)) bT bV bU.f4 fun bX bY bZ cK ca cb cc cd=>(av rfl (nb (l4 (j3 (mv rfl (lv (y4 rfl rfl) (av rfl (i8 ?_))))))))
    cases oi bW
    exact qd ⟨_,rfl,bX,bY,bZ,ca,rfl,cd.f4.f4.f4.s,(((s.trans ad).trans aI).trans cb),cc,(s6 _)⟩
   refine j5 (x9 (l4 (j3 (mv rfl (lv (y4 rfl rfl) (av rfl (i8 ?_)))))))
   cases oi aC
   exact qd ⟨_,rfl,J,O,R,bD,rfl,ak,(s.trans ad),(aA.mono ad),(s6 _)⟩
  refine w8 (g6 (g6 ?_))
  cases oi aB
  cases bh _ rfl
  refine l5 ?_
  cases oi bf
  exact qd ⟨J,O,R,ac,rfl,aj.s,s,aA⟩
 rintro _ cL ⟨X,Y,aa,ab,rfl,ce,cM,cf⟩
 refine qr (mv rfl (av rfl (nq (l3 ?_))))
 cases oi bd
 exact ey results22 ⟨X,Y,aa,ab,rfl,ce,cf⟩

theorem a8E {q0:List Int}{q1:Int}{r:Int}(hS:SH w K [] w K [])(d:b7 C9 K A a b q0)(Y:i7 q1)(hm:a04 F q0 q1=some r):
  Calls prog 133 #[V3 A a b,V6 q1] w (R_i w K r):=by
 rw [a04] at hm
 refine ci func133 rfl ntmps133 (sr (lv (N4 rfl) (P6 (mv rfl (lv (q7 underlying51 rfl d) (lv (r_m rfl) (nq ?_)))))))
 obtain⟨s,x,f⟩:=ob hm
 refine l6 (IE s w K [] K [] []) ?_ ?_
 ·refine j7 ?_
  obtain⟨aa,y,m⟩:=ob x
  refine qf (fun (o:Nat) (q:Unit)=>IV w K [] K [(0,V3 A a b),(1,V6 q1),(7,V6 (q0.length:Int)),(8,V6 ((o:Nat):Int))] []) y ⟨K,rfl,hS,kr⟩ ?_ ?_
  ·rintro o q _ B ab hi24 C D ⟨i,rfl,c,k⟩
   refine sr (lv (s7 rfl rfl) (ns (C2 rfl (b8 (by omega)) (j5 (l4 (p9 (j7 (sr (mv rfl (av rfl (nr (mv rfl ?_))))))))))))
   refine mv rfl (mv rfl ?_)
   obtain⟨G,H,I⟩:=ob C
   refine li underlying51 E4 (d.mono k) H fun J O ac R S=>?_
   obtain⟨rfl,ad⟩:=R
   have T:E9 _ J O [V6 G]:=S
   refine lv (y7 E4 rfl c (T 0 _ rfl)) (lv (A6 rfl rfl) (nq (D4 I rfl (fun U l=>?_) (fun U l=>?_))))
   ·refine sr (mv rfl (av rfl (nq (l3 (j6 (g8 (g8 ?_)))))))
    cases oi l
    cases D _ rfl
    refine j6 (g8 ?_)
    cases oi m
    refine g8 ?_
    cases oi f
    exact ey results133 ⟨i,rfl,c,(b2D hi24 (b7.max d))⟩
   refine j5 (x9 (qg (lv (A3 rfl rfl (B5 hi24 (b7.max d))) (mv rfl (i8 ?_)))))
   cases oi l
   exact qd ⟨_,rfl,i,rfl,c,k⟩
  rintro q _ B V ⟨i,rfl,c,k⟩
  subst V
  refine sr (lv (s7 rfl rfl) (ns (C1 rfl (c6 (by omega)) (w8 (g6 (g6 (l5 ?_)))))))
  cases oi m
  exact H9 ⟨_,i,rfl,rfl,c,k⟩ trivial
 rintro _ ae ⟨s9,W,rfl,rfl,X,ag⟩
 have f:=F6 f
 refine qr (lv (x8 (v:=V6 (-1)) rfl) (nq (l3 ?_)))
 cases oi f
 exact ey results133 ⟨W,rfl,X,(by decide :i7 (-1))⟩

theorem a3O {q0:List Int}{q1:Int}{r:Bool}(hS:SH w K [] w K [])(c:b7 C9 K A a b q0)(d:i7 q1)(hm:N9 F q0 q1=some r):
  Calls prog 69 #[V3 A a b,V6 q1] w (R_b w K r):=by
 rw [N9] at hm
 refine ci func69 rfl ntmps69 (sr (lv (P2 rfl) (nr (mv rfl (mv rfl ?_)))))
 obtain⟨o,f,i⟩:=ob hm
 refine lk c5Z (a8E F hS.enter0 c d f) ?_
 rintro q s ⟨k,rfl,l,x⟩
 have m:=(hS.c0 l).t0
 refine lv (a3S rfl rfl) (av rfl (nq (l3 ?_)))
 cases oi i
 exact ey results69 ⟨k,rfl,m⟩

theorem b0N {q0:List y5}{q1:List Int}{q2:q9}{r:(List Int)}(hS:SH w K [] w K [])(G:b7 F8 K A a b q0)(am:b7 C9 K B c d q1)(an:q2.length≤maxLen)(hm:a1o F q0 q1 q2=some r):
  Calls prog 64 #[V3 A a b,V3 B c d,sv q2] w fun e w'=>∃a_1 n_2 c_3 K',e= .returned (V3 a_1 n_2 c_3)∧SH w K [] w' K' [tail (V3 a_1 n_2 c_3) 3 1]∧b7 C9 K' a_1 n_2 c_3 r:=by
 rw [a1o] at hm
 refine ci func64 rfl ntmps64 (sr (lv (r_n rfl) (nr (b0 C9 underlying51 E4 hS fun ao bn T s ap aq=>(av rfl (P6 (mv rfl (lv (q7 underlying27 rfl (G.mono s)) (lv (r_m rfl) ?_)))))))))
 refine nq ?_
 obtain⟨ar,au,aw⟩:=ob hm
 refine l6 (fun E' w'=>∃x y C D,E'=[(7,V3 x y C)]∧SH w K [] w' D [tail (V3 x y C) 3 1]∧I9 T D∧b7 C9 D x y C ar) ?_ ?_
 ·refine j7 ?_
  obtain⟨bo,ax,ay⟩:=ob au
  refine qF (fun (U:Nat) (V:(List Int)) E' w'=>∃i k l m,E'=[(1,V3 B c d),(2,sv q2),(7,V3 i k l),(12,V3 A a b),(13,V6 (q0.length:Int)),(14,V6 ((U:Nat):Int))]∧SH w K [] w' m [tail (V3 i k l) 3 1]∧I9 T m∧b7 C9 m i k l V) ax ⟨ao,0,0,T,rfl,aq,kr,ap⟩ ?_ ?_
  ·rintro U V _ az bp hi41 aA ⟨i,k,l,m,rfl,H,o,I⟩
   refine sr (lv (s7 rfl rfl) (ns (C2 rfl (b8 (by omega)) (j5 (l4 (p9 (j7 (sr ?_))))))))
   obtain⟨J,aB,aC⟩:=ob aA
   refine li underlying27 F7 (G.mono (s.trans o)) aB fun aD aE bq aF aG=>?_
   obtain⟨W,X,Y,aa,ab,ac,rfl,ag,aH,aI⟩:=aF
   have aJ:E9 _ aD aE [V6 J.Id,V3 W X Y,V3 aa ab ac]:=aG
   refine lv (F5 F7 rfl H aJ rfl) (al F7 H fun aK br aL=>?_)
   have aM:SH _ _ _ _ _ [u9 aK [V6 0,V3 none 0 0,V3 none 0 0] 67,_]:=aL
   refine lw [V6 J.Id,V3 W X Y,V3 aa ab ac] F7 aM fun bs ad=>(nr (lv (n8 (ds:=[V6 J.Id,V3 W X Y,V3 aa ab ac]) F7 rfl m0 ad rfl rfl) (mv rfl ?_)))
   obtain⟨O,aN,aO⟩:=ob aC
   refine lk c39 (a5q F ad.enter0 ag aH aI an aN) ?_
   rintro bu bv ⟨ah,rfl,q,aP⟩
   have R:=(ad.c0 q).t2
   refine av rfl (ns ?_)
   obtain⟨aQ,aR,aS⟩:=ob aO
   refine l6 (IV w K [] ah [(1,V3 B c d),(2,sv q2),(7,V3 i k l),(10,V6 O),(12,V3 A a b),(13,V6 (q0.length:Int)),(14,V6 ((U:Nat):Int)),(28,.bool aQ)] [tail (V3 i k l) 3 1]) ?_ ?_
   ·refine j3 (mv rfl (lv (S7 rfl rfl) (mv rfl (bt aR (fun f ae=>?_) (fun f ae=>?_)))))
    ·refine lg f (i5 rfl) (lg f (c9 S6 rfl) (lg f (u6 E4 rfl m0 R rfl) ?_))
     obtain⟨bx,aT,aU⟩:=ob ae
     refine A0 (wg rfl rfl f) rfl (z7 (vs:=[V3 B c d,V6 J.Id]) c6Q rfl) (a3O F R.enter0 (am.mono ((s.trans o).trans q.le)) ag aT) ?_
     rintro bz bA ⟨aV,rfl,ai⟩
     refine⟨_,rfl,?_⟩
     have aW:=(R.c0 ai).t2
     refine lv (o0 rfl f rfl) (i8 ?_)
     cases oi aU
     exact qd ⟨aV,rfl,aW.s,ai.le⟩
    refine lu f (lu f (lu f (lu f (lv (J6 rfl f rfl) (i8 ?_)))))
    cases oi ae
    exact qd ⟨ah,rfl,R.s,kr⟩
   rintro _ bB ⟨aX,rfl,aj,S⟩
   refine l4 (D4 aS rfl (fun aY af=>?_) (fun aY af=>?_))
   ·refine j3 (mv rfl (mv rfl (lb C9 (V6 O) [V6 O] O underlying51 E4 ⟨rfl,aP⟩ aj fun bC bD bE ak aZ ba=>?_)))
    obtain⟨bF,bb,bc⟩:=ob af
    refine lp underlying51 E4 (I.mono ((q.le.trans S).trans ak)) aZ bb ba.f1 fun bd be bf bG bg bh bi bj=>(av rfl (nb (qg (lv (A3 rfl rfl (B5 hi41 (b7.max (G.mono s)))) (mv rfl (i8 ?_))))))
    cases oi bc
    exact qd ⟨bd,be,bf,bg,rfl,bj.s,((((o.trans q.le).trans S).trans ak).trans bh),bi⟩
   refine j5 (x9 (qg (lv (A3 rfl rfl (B5 hi41 (b7.max (G.mono s)))) (mv rfl (i8 ?_)))))
   cases oi af
   exact qd ⟨i,k,l,aX,rfl,aj,((o.trans q.le).trans S),(I.mono (q.le.trans S))⟩
  rintro V _ az bk ⟨i,k,l,m,rfl,H,o,I⟩
  subst bk
  refine sr (lv (s7 rfl rfl) (ns (C1 rfl (c6 (by omega)) (w8 (g6 (g6 (l5 ?_)))))))
  cases oi ay
  exact qd ⟨i,k,l,m,rfl,H,o,I⟩
 rintro _ bH ⟨x,y,C,D,rfl,bl,bI,bm⟩
 refine qr (mv rfl (av rfl (nq (l3 ?_))))
 cases oi aw
 exact ey results64 ⟨x,y,C,D,rfl,bl,bm⟩

theorem a9R {q0:a32}{q1:a32}{r:Int}(hS:SH w K [] w K [])(y:i7 q0.Num)(A:i7 q0.Many)(B:i7 q1.Num)(C:i7 q1.Many)(hm:N1 F q0 q1=some r):
  Calls prog 66 #[.agg #[V6 q0.Num,V6 q0.Many],.agg #[V6 q1.Num,V6 q1.Many]] w (R_i w K r):=by
 rw [N1] at hm
 refine ci func66 rfl ntmps66 (sr (bx rfl hS fun o w6 D=>?_))
 have G:SH _ _ _ _ _ [u9 o [V6 q0.Num,V6 q0.Many] 57]:=D
 refine bx rfl G fun q ac H=>?_
 have I:SH _ _ _ _ _ [u9 q [V6 q1.Num,V6 q1.Many] 57,_]:=H
 refine lv (N4 rfl) (ns ?_)
 have a:=I.drew
 refine j_0 (fun w'=>G8 K w'∧A9 q [V6 q1.Num,V6 q1.Many] w'∧A9 o [V6 q0.Num,V6 q0.Many] w') 13 [] mixed ⟨a.hasK kr,a.hasObj m0,a.hasObj m1⟩ (jv 0 rfl (c9 b5x rfl) (jh 1 rfl (fun _ h=>A8 E4 rfl rfl h.2.1) (jv 2 rfl (c9 b5x rfl) (jh 3 rfl (fun _ h=>A8 E4 rfl rfl h.2.2) (jv 5 rfl (c9 b5w rfl) (jh 6 rfl (fun _ h=>A8 E4 rfl rfl h.2.2) (jv 7 rfl (c9 b5w rfl) (jh 8 rfl (fun _ h=>A8 E4 rfl rfl h.2.1) (j1 4 rfl ?_)))))))))
 obtain⟨b,J,O⟩:=ob hm
 refine lk c27 (a1e F a.enter0 C A J) ?_
 rintro ad ae ⟨af,rfl,c,R⟩
 have d:=(a.c0 c).t2
 refine R7 ⟨d.hasK c.le,d.hasObj m0,d.hasObj m1⟩ (j1 9 rfl ?_)
 obtain⟨f,S,T⟩:=ob O
 refine lk c27 (a1e F d.enter0 y B S) ?_
 rintro ag ah ⟨ai,rfl,k,U⟩
 have l:=(d.c0 k).t2
 refine R7 ⟨l.hasK (c.le.trans k.le),l.hasObj m0,l.hasObj m1⟩ (j1 10 rfl (H0 (t:=C9) (n:=2) (pv:=[(0,V6 b),(1,V6 f)]) (cs:=[V6 b,V6 f]) (xs:=[b,f]) wn rfl underlying51 E4 rfl rfl rfl (by kernel_rfl) rfl rfl (E7 (u:=V6 b) (z:=b) ⟨rfl,R⟩ (E7 (u:=V6 f) (z:=f) ⟨rfl,U⟩ a0o)) l fun aj ak al s V i=>(R7 ⟨i.hasK ((c.le.trans k.le).trans s),i.hasObj m1,i.hasObj m2⟩ (j1 11 rfl ?_))))
 obtain⟨am,W,X⟩:=ob T
 refine lk c4R (a54 F i.enter0 V W) ?_
 rintro an ao ⟨Y,rfl,x,aa⟩
 have m:=(i.c0 x).t3
 refine R7 ⟨m.hasK (((c.le.trans k.le).trans s).trans x.le),m.hasObj m1,m.hasObj m2⟩ (jv 12 rfl (x8 rfl) (jd (l4 (l3 ?_))))
 cases oi X
 exact ey results66 ⟨Y,rfl,m.s,aa⟩

set_option maxHeartbeats 2000000 in
theorem b1T (F:Nat){w:World}{K:F0}{a1:Option Addr}{n2 c3:Nat}{a5:Option Addr}{n6 c7:Nat}{p0_docs:List y5}{p1_ids:List Int}{p2_name:q9}{r:(List a32)}(hS:SH w K [] w K [])(hs4:b7 F8 K a1 n2 c3 p0_docs)(hs8:b7 C9 K a5 n6 c7 p1_ids)(hl9:p2_name.length≤maxLen)(hm:a1Y F p0_docs p1_ids p2_name=some r):
  Calls Tryz.prog 23 #[.slice a1 n2 c3,.slice a5 n6 c7,sv p2_name] w fun e w'=>∃(a_1:Option Addr) (n_2 c_3:Nat) (K':F0),e= .returned (.slice a_1 n_2 c_3)∧SH w K [] w' K' [tail (.slice a_1 n_2 c_3) 57 2]∧b7 a6X K' a_1 n_2 c_3 r:=by
 rw [a1Y] at hm
 refine b6h Tryz.func23 rfl Tryz.ntmps23 rfl ?_
 refine sr ?_
 refine R4 wn rfl (x8 (v:=.slice none 0 0) rfl) ?_
 refine nr ?_
 refine a0V a6X wn rfl Tryz.underlying54 b4o hS ?_
 intro a70 w70 K70 hl70 hs70 hS70
 refine va rfl rfl ?_
 refine ns ?_
 refine p9 ?_
 obtain⟨o10,h11,h12⟩:=ob hm
 refine l6 (fun E' w'=>∃(K13:F0),E'=[(0,.slice a1 n2 c3),(1,.slice a5 n6 c7),(2,sv p2_name),(7,.slice a70 0 0),(21,.bool o10)]∧SH w K [] w' K13 [tail (.slice a70 0 0) 57 2]∧I9 K70 K13) ?_ ?_
 ·refine j3 ?_
  refine vm rfl rfl ?_
  obtain⟨r17,hx18,h19⟩:=ob h11
  refine A0 wn rfl (z7 (vs:=[.slice a1 n2 c3]) c4Q rfl) ((a5r F) hS70.enter0 (b7.mono hl70 hs4) hx18) ?_
  rintro e23 w21 ⟨K20,rfl,hS22⟩
  refine⟨_,rfl,?_⟩
  have hS24:SH _ _ _ _ _ [_]:=SH.call0 hS70 hS22
  refine R4 wn rfl (A4 rfl) ?_
  refine vm rfl rfl ?_
  rcases c22 ((!r17)) with hb25 | hb25
  ·have h26:=Z8 hb25 h19
   refine A2 (ug rfl rfl hb25) rfl ?_
   refine A2 (ug rfl rfl hb25) rfl ?_
   refine A2 (ug rfl rfl hb25) rfl ?_
   refine R4 wn rfl (L8 rfl hb25 rfl) ?_
   refine i8 ?_
   obtain rfl:=oi h26
   exact H9 ⟨K20,rfl,hS24,hS22.le⟩ ⟨rfl,rfl,rfl,rfl,rfl,trivial⟩
  ·have h26:=Z7 hb25 h19
   refine R4 (wg rfl rfl hb25) rfl (i5 rfl) ?_
   obtain⟨r27,hx28,h29⟩:=ob h26
   refine A0 (wg rfl rfl hb25) rfl (z7 (vs:=[.slice a5 n6 c7]) c26 rfl) ((a4W F) hS24.enter0 (b7.mono (hl70.trans hS22.le) hs8) hx28) ?_
   rintro e33 w31 ⟨K30,rfl,hS32⟩
   refine⟨_,rfl,?_⟩
   have hS34:SH _ _ _ _ _ [_]:=SH.call0 hS24 hS32
   refine R4 (wg rfl rfl hb25) rfl (A4 rfl) ?_
   refine R4 wn rfl (o4 rfl hb25 rfl) ?_
   refine i8 ?_
   obtain rfl:=oi h29
   exact H9 ⟨K30,rfl,hS34,(hS22.le.trans hS32.le)⟩ ⟨rfl,rfl,rfl,rfl,rfl,trivial⟩
 ·rintro _ w15 ⟨K13,rfl,hS16,hl14⟩
  refine l4 ?_
  refine P1 rfl (fun hb35=>?_) (fun hb35=>?_)
  ·have h36:=Z8 hb35 h12
   refine sr ?_
   refine vm rfl rfl ?_
   refine va rfl rfl ?_
   refine nq ?_
   refine rr ?_
   obtain rfl:=oi h36
   exact R6 (vs:=[_]) Tryz.results23 ⟨rfl,trivial⟩ ⟨a70,0,0,K13,rfl,hS16,hs70.mono hl14⟩
  ·have h36:=Z7 hb35 h12
   refine j5 ?_
   refine qr ?_
   refine b8X wn rfl hS16 ?_
   intro gm w40 hS40
   refine va rfl rfl ?_
   refine P6 ?_
   refine vm rfl rfl ?_
   refine vm rfl rfl ?_
   refine vm rfl rfl ?_
   obtain⟨nz,hx39,h40⟩:=ob h36
   refine A0 wn rfl (z7 (vs:=[.slice a1 n2 c3,.slice a5 n6 c7,sv p2_name]) c7m rfl) ((b0N F) hS40.enter0 (b7.mono (hl70.trans hl14) hs4) (b7.mono (hl70.trans hl14) hs8) hl9 hx39) ?_
   rintro e48 w42 ⟨a44,n45,c46,K41,rfl,hS43,hs47⟩
   refine⟨_,rfl,?_⟩
   have hS49:SH _ _ _ _ _ [_,_,_]:=SH.call0 hS40 hS43
   refine R4 wn rfl (q7 (t:=C9) Tryz.underlying51 rfl hs47) ?_
   refine R4 wn rfl (i5 (v:=.int .i64 0) rfl) ?_
   refine nq ?_
   have hl50:I9 K70 K41:=hl14.trans hS43.le
   refine l6 (fun E' w'=>∃(K51:F0),E'=[(7,.slice a70 0 0),(8,.map (some gm))]∧SH w K [] w' K51 [b1Q gm (a7w nz),tail (.slice a70 0 0) 57 2]∧I9 K70 K51∧b6a (a7w nz)) ?_ ?_
   ·refine j7 ?_
    refine b3V (fun (i31:Nat) (s27:List (Int×Int)) E' w'=>∃(K32:F0),E'=[(7,.slice a70 0 0),(8,.map (some gm)),(27,.slice a44 n45 c46),(28,.int .i64 (nz.length:Int)),(29,.int .i64 ((i31:Nat):Int))]∧SH w K [] w' K32 [b1Q gm s27,tail (.slice a70 0 0) 57 2]∧I9 K41 K32∧b6a s27) (b4C (fun m n=>a4Z n (A1 (a1s m n+1)) m) nz nz.length 0 [] (by omega)) ⟨K41,rfl,SH.sublist hS49 (.cons _ (.cons_cons _ (.cons_cons _ .slnil))),(I9.refl _),b6a.nil⟩ ⟨rfl,rfl,rfl,rfl,rfl,trivial⟩ ?_ ?_
    ·rintro i31 s27 _ w34 r40 hi41 h42 ⟨K32,rfl,hS35,hl33,hr33⟩
     refine sr ?_
     refine R4 wn rfl (s7 rfl rfl) ?_
     refine ns ?_
     refine C2 rfl (b8 (by omega)) (j5 (l4 (p9 ?_)))
     refine j7 ?_
     refine sr ?_
     obtain⟨x44,hx45,h46⟩:=ob h42
     obtain rfl:=oi h46
     refine I3 (t:=C9) wn rfl Tryz.underlying51 E4 rfl rfl (b7.mono hl33 hs47) hx45 ?_
     intro b47 o48 u49 hu50 ha51
     obtain⟨rfl,hr52⟩:=hu50
     have ha61:E9 _ b47 o48 [.int .i64 x44]:=ha51
     refine R4 wn rfl (y7 E4 rfl hS35 (ha61 0 _ rfl)) ?_
     refine va rfl rfl ?_
     refine nq ?_
     refine j3 ?_
     refine vm rfl rfl ?_
     refine vm rfl rfl ?_
     refine R4 wn rfl (c2u Tryz.underlying114 Tryz.underlying3 E4 rfl rfl (.head _) hS35) ?_
     refine R4 wn rfl (y4 rfl rfl) ?_
     refine c30 wn Tryz.underlying114 Tryz.underlying3 rfl rfl rfl hS35 ?_
     intro w53 hS53
     refine nb ?_
     refine l4 ?_
     refine j3 ?_
     refine R4 wn rfl (A3 rfl rfl (B5 hi41 (b7.max hs47))) ?_
     refine vm rfl rfl ?_
     refine i8 ?_
     exact H9 ⟨K32,rfl,hS53,hl33,hr33.put hr52 (s6 _)⟩ ⟨rfl,rfl,rfl,rfl,rfl,trivial⟩
    ·rintro s27 _ w34 rfl ⟨K32,rfl,hS35,hl33,hr33⟩
     refine sr ?_
     refine R4 wn rfl (s7 rfl rfl) ?_
     refine ns ?_
     refine C1 rfl (c6 (by omega)) (w8 (g6 (g6 (l5 ?_))))
     exact H9 ⟨K32,rfl,hS35,hl50.trans hl33,hr33⟩ ⟨rfl,rfl,trivial⟩
   ·rintro _ w54 ⟨K51,rfl,hS55,hl56,hr57⟩
    refine qs ?_
    refine sr ?_
    refine vm rfl rfl ?_
    obtain⟨es,clock,hS58,hin,hst⟩:=hS55.mapOpen
    refine c08 wn rfl Tryz.underlying114 rfl hS58 ?_
    intro gi w59 hS59
    refine nq ?_
    obtain⟨fs,hx60,h61⟩:=ob h40
    have hes:es.toList.length=(a7w nz).length:=by rw [←hin.pairs,List.length_map]
    have hold: ∀x∈es.toList,x.born<clock:=fun x hx=>((MapKept.stamped_iff es clock).1 hst).1 x hx
    have hcat:=hx60
    unfold J5 at hcat
    split at hcat
    case isFalse=>cases hcat
    rename_i hbd
    obtain rfl:=oi hcat
    rw [List.length_nil,Nat.zero_add,List.length_map] at hbd
    refine l6 (fun E' w'=>∃(a62:Option Addr) (n63 c64:Nat) (K65:F0) (done:List (Int×Int)),E'=[(7,.slice a62 n63 c64)]∧SH w K [] w' K65 [tail (.slice a62 n63 c64) 57 2]∧I9 K70 K65∧b7 a6X K65 a62 n63 c64 (done.map a08)∧(a7w nz).Perm done) ?_ ?_
    ·refine j7 ?_
     refine b3V (n:=(a7w nz).length) (f:=fun _ _=>some ()) (r:=()) (fun (i31:Nat) (_:Unit) E' w'=>∃(a62:Option Addr) (n63 c64:Nat) (K65:F0) (done:List (Int×Int)) (seen:Array Nat) (c1:Nat),E'=[(7,.slice a62 n63 c64),(39,.pointer (some ⟨gi,0,none⟩))]∧SH w K [] w' K65 [a9M gi gm clock seen c1,b6U gm es clock,tail (.slice a62 n63 c64) 57 2]∧I9 K70 K65∧b7 a6X K65 a62 n63 c64 (done.map a08)∧b5g es seen done∧done.length=i31∧clock≤c1) (b4E _ _) ⟨a70,0,0,K51,[],#[],clock,rfl,hS59,hl56,hs70.mono hl56,c1L es,rfl,Nat.le_refl _⟩ ⟨rfl,rfl,trivial⟩ ?_ ?_
     ·rintro i31 s27 _ w34 s40 hi41-⟨a62,n63,c64,K65,done,seen,c1,rfl,hS66,hl67,hs68,hdn,hlen,hc1⟩
      refine sr ?_
      refine b7S wn rfl rfl hS66 hold hc1 (fun h0=>?_) (fun e w' he hS69=>?_)
      ·exfalso
       have:=(b6v hdn h0).length_eq
       rw [List.length_map] at this
       omega
      ·refine R4 wn rfl (B2 rfl rfl) ?_
       refine ns ?_
       refine C2 rfl rfl (j5 (l4 ?_))
       refine j7 ?_
       refine sr ?_
       have hme:e∈es.toList:=(mem_left he).1
       have hkv:=hin.entry hme
       have hpr:Y7 e∈a7w nz:=by rw [←hin.pairs];exact List.mem_map_of_mem hme
       have hrr:=hr57 _ hpr
       refine R4 wn rfl (c0D rfl (.head _) (.tail _ (.head _)) hS69 hme hst) ?_
       refine R4 wn rfl (B2 rfl rfl) ?_
       refine R4 wn rfl (B2 rfl rfl) ?_
       refine va rfl rfl ?_
       refine va rfl rfl ?_
       rw [hkv.1,hkv.2]
       refine nq ?_
       refine j3 ?_
       refine vm rfl rfl ?_
       refine vm rfl rfl ?_
       refine vm rfl rfl ?_
       refine R4 wn rfl (D3 (cs:=#[.int .i64 (Y7 e).1,.int .i64 (Y7 e).2]) c7x b4o rfl (by kernel_rfl)) ?_
       refine H0 (t:=a6X) (n:=1) (pv:=[(0,.agg #[.int .i64 (Y7 e).1,.int .i64 (Y7 e).2])]) (cs:=[.int .i64 (Y7 e).1,.int .i64 (Y7 e).2]) (xs:=[a08 (Y7 e)]) wn rfl Tryz.underlying54 b4o rfl rfl rfl (by kernel_rfl) rfl rfl (E7 (u:=.agg #[.int .i64 (Y7 e).1,.int .i64 (Y7 e).2]) (z:=a08 (Y7 e)) ⟨rfl,hrr.1,hrr.2⟩ a0o) hS69 ?_
       intro a80 w80 K80 hl80 hs80 hS80
       have hS81:SH _ _ _ _ _ [_,_,_,_]:=SH.front (p:=[_,_,_]) hS80
       have hcat:J5 16 (done.map a08) [a08 (Y7 e)]=some ((done++[Y7 e]).map a08):=by
        unfold J5
        rw [if_pos (by rw [List.length_map,j9,hlen];omega),List.map_append];rfl
       refine b5b (t:=a6X) wn rfl Tryz.underlying54 b4o rfl rfl rfl rfl rfl (b7.mono hl80 hs68) hs80 hcat hS81 ?_
       intro a90 n90 c90 w90 K90 hl90 hs90 hS90
       refine va rfl rfl ?_
       refine nb ?_
       have hS91:SH _ _ _ _ _ [_,_,_,_]:=SH.front (p:=[_,_]) hS90
       have hS92:SH _ _ _ _ _ [_,_,_,_]:=SH.front (p:=[_,_,_]) hS91
       have hS93:SH _ _ _ _ _ [_,_,_]:=(SH.perm hS92 (.swap _ _ _)).sublist (.cons_cons _ (.cons_cons _ (.cons_cons _ (.cons _ .slnil))))
       exact H9 ⟨a90,n90,c90,K90,done++[Y7 e],seen.push e.born,clock,rfl,hS93,(hl67.trans hl80).trans hl90,hs90,b4x hdn hst he,by rw [n9,hlen];rfl,Nat.le_refl _⟩ ⟨rfl,rfl,trivial⟩
     ·rintro s27 _ w34-⟨a62,n63,c64,K65,done,seen,c1,rfl,hS66,hl67,hs68,hdn,hlen,hc1⟩
      refine sr ?_
      refine b7S wn rfl rfl hS66 hold hc1 (fun h0=>?_) (fun e w' he hS69=>?_)
      ·refine R4 wn rfl (B2 rfl rfl) ?_
       refine ns ?_
       refine C1 rfl rfl (w8 (g6 (g6 (l5 ?_))))
       have hp:=b6v hdn h0
       rw [hin.pairs] at hp
       exact H9 ⟨a62,n63,c64,K65,done,rfl,SH.sublist hS66 (.cons _ (.cons _ (.cons_cons _ .slnil))),hl67,hs68,hp.symm⟩ ⟨rfl,trivial⟩
      ·exfalso
       have h2:=c1K (b4x hdn hst he)
       rw [n9,j9] at h2
       omega
    ·rintro _ w66 ⟨a62,n63,c64,K65,done,rfl,hS66,hl67,hs68,hpd⟩
     have hso:=b8D ((hpd.map a08)) h61
     refine qr ?_
     refine vm rfl rfl ?_
     refine A0 wn rfl (z7 (vs:=[.slice a62 n63 c64,.func (.func 66) #[] #[]]) c7n rfl) (b42 (T:=a6X) sortLay65 b8B rfl (fun w=>Go.Fk.a48 b4o w) (fun w=>Go.Fk.P3 b4o w) (fun a b=>N1 F a b) 66 (Go.Proofs.enters_of Tryz.func66 (by kernel_rfl) rfl) hS66 hS.holds (fun b hb=>by cases hb) hs68 (fun _ _ _ _ _ h=>h) (fun K1 W v x u y r hW h1 h2 hm=>by
      obtain⟨rfl,hra,hrb⟩:=h1
      obtain⟨rfl,hrc,hrd⟩:=h2
      exact(a9R (dr:=⟨True⟩) F (SH.start (dr:=⟨True⟩) hW) hra hrb hrc hrd hm).mono fun e w' ⟨K',he,hS',_⟩=>⟨K',he,hS'⟩) hso) ?_
     rintro e95 w95 ⟨K95,rfl,hS95,hs95⟩
     refine⟨_,rfl,?_⟩
     refine nr ?_
     refine vm rfl rfl ?_
     refine va rfl rfl ?_
     refine nq ?_
     refine l3 ?_
     exact R6 (vs:=[_]) Tryz.results23 ⟨rfl,trivial⟩ ⟨a62,n63,c64,K95,rfl,hS95,hs95⟩

theorem b29 {q0:List Int}{q1:List Int}{r:(List Int)}(hS:SH w K [] w K [])(x:b7 C9 K A a b q0)(aa:b7 C9 K B c d q1)(hm:a2J F q0 q1=some r):
  Calls prog 24 #[V3 A a b,V3 B c d] w fun e w'=>∃a_1 n_2 c_3 K',e= .returned (V3 a_1 n_2 c_3)∧SH w K [] w' K' [tail (V3 a_1 n_2 c_3) 3 1]∧b7 C9 K' a_1 n_2 c_3 r:=by
 rw [a2J] at hm
 refine ci func24 rfl ntmps24 (sr (lv (r_n rfl) (nr (b0 C9 underlying51 E4 hS fun J be aj i ab ac=>(av rfl (ns (p9 ?_)))))))
 obtain⟨ak,al,am⟩:=ob hm
 refine l6 (IV w K [] aj [(0,V3 A a b),(1,V3 B c d),(5,V3 J 0 0),(16,.bool ak)] [tail (V3 J 0 0) 3 1]) ?_ ?_
 ·refine j3 (mv rfl ?_)
  obtain⟨bf,an,ao⟩:=ob al
  refine lk c26 (a4W F ac.enter0 (x.mono i) an) ?_
  rintro bg bh ⟨ap,rfl,O⟩
  have U:=(ac.c0 O).t1
  refine lv (A4 rfl) (mv rfl (bt ao (fun f V=>?_) (fun f V=>?_)))
  ·refine lu f (lu f (lu f (lv (L8 rfl f rfl) (i8 ?_))))
   cases oi V
   exact qd ⟨ap,rfl,U,O.le⟩
  refine lg f (i5 rfl) ?_
  obtain⟨bi,aq,ar⟩:=ob V
  refine A0 (wg rfl rfl f) rfl (z7 (vs:=[V3 B c d]) c26 rfl) (a4W F U.enter0 (aa.mono (i.trans O.le)) aq) ?_
  rintro bj bk ⟨au,rfl,ad⟩
  refine⟨_,rfl,?_⟩
  have aw:=(U.c0 ad).t1
  refine lg f (A4 rfl) (lv (o4 rfl f rfl) (i8 ?_))
  cases oi ar
  exact qd ⟨au,rfl,aw,(O.le.trans ad.le)⟩
 rintro _ bl ⟨R,rfl,ae,k⟩
 refine l4 (D4 am rfl (fun ax W=>?_) (fun ax W=>?_))
 ·refine sr (mv rfl (av rfl (nq (rr ?_))))
  cases oi W
  exact ey results24 ⟨J,0,0,R,rfl,ae,(ab.mono k)⟩
 refine j5 (qs (sr (mv rfl (lv (q7 underlying51 rfl (x.mono (i.trans k))) (lv (r_m rfl) (nq ?_))))))
 obtain⟨ay,az,aA⟩:=ob W
 refine l6 (fun E' w'=>∃y C D G,E'=[(5,V3 y C D)]∧SH w K [] w' G [tail (V3 y C D) 3 1]∧I9 R G∧b7 C9 G y C D ay) ?_ ?_
 ·refine j7 ?_
  obtain⟨bm,aB,aC⟩:=ob az
  refine qF (fun (af:Nat) (X:(List Int)) E' w'=>∃l m o q,E'=[(1,V3 B c d),(5,V3 l m o),(18,V3 A a b),(19,V6 (q0.length:Int)),(20,V6 ((af:Nat):Int))]∧SH w K [] w' q [tail (V3 l m o) 3 1]∧I9 R q∧b7 C9 q l m o X) aB ⟨J,0,0,R,rfl,ae,kr,(ab.mono k)⟩ ?_ ?_
  ·rintro af X _ aD bn hi67 aE ⟨l,m,o,q,rfl,H,s,S⟩
   refine sr (lv (s7 rfl rfl) (ns (C2 rfl (b8 (by omega)) (j5 (l4 (p9 (j7 (sr ?_))))))))
   obtain⟨T,aF,aG⟩:=ob aE
   refine li underlying51 E4 (x.mono ((i.trans k).trans s)) aF fun aH aI bo aJ aK=>?_
   obtain⟨rfl,ag⟩:=aJ
   have aL:E9 _ aH aI [V6 T]:=aK
   refine lv (y7 E4 rfl H (aL 0 _ rfl)) (av rfl (nr (mv rfl (mv rfl ?_))))
   obtain⟨bp,aM,aN⟩:=ob aG
   refine lk c6Q (a3O F H.enter0 (aa.mono ((i.trans k).trans s)) ag aM) ?_
   rintro bq br ⟨aO,rfl,I⟩
   have ah:=(H.c0 I).t1
   refine nq (D4 aN rfl (fun aP Y=>?_) (fun aP Y=>?_))
   ·refine j3 (mv rfl (mv rfl (lb C9 (V6 T) [V6 T] T underlying51 E4 ⟨rfl,ag⟩ ah fun bs bu bv ai aQ aR=>?_)))
    obtain⟨bx,aS,aT⟩:=ob Y
    refine lp underlying51 E4 (S.mono (I.le.trans ai)) aQ aS aR.f1 fun aU aV aW bz aX aY aZ ba=>(av rfl (nb (qg (lv (A3 rfl rfl (B5 hi67 (b7.max (x.mono (i.trans k))))) (mv rfl (i8 ?_))))))
    cases oi aT
    exact qd ⟨aU,aV,aW,aX,rfl,ba.s,(((s.trans I.le).trans ai).trans aY),aZ⟩
   refine j5 (x9 (qg (lv (A3 rfl rfl (B5 hi67 (b7.max (x.mono (i.trans k))))) (mv rfl (i8 ?_)))))
   cases oi Y
   exact qd ⟨l,m,o,aO,rfl,ah,(s.trans I.le),(S.mono I.le)⟩
  rintro X _ aD bb ⟨l,m,o,q,rfl,H,s,S⟩
  subst bb
  refine sr (lv (s7 rfl rfl) (ns (C1 rfl (c6 (by omega)) (w8 (g6 (g6 (l5 ?_)))))))
  cases oi aC
  exact qd ⟨l,m,o,q,rfl,H,s,S⟩
 rintro _ bA ⟨y,C,D,G,rfl,bc,bB,bd⟩
 refine qr (mv rfl (av rfl (nq (l3 ?_))))
 cases oi aA
 exact ey results24 ⟨y,C,D,G,rfl,bc,bd⟩

theorem a7P {q0:List UInt8}{r:Bool}(hS:SH w K [] w K [])(aS:b7 tU8 K A a b q0)(hG6:a5U C5 0 c L3 w)(hD: ¬dr.D)(hm:a0C F q0=some r):
  Calls prog 6 #[V3 A a b] w (R_b w K r):=by
 rw [a0C] at hm
 refine ci func6 rfl ntmps6 (sr (lv (P2 rfl) (P6 (mv rfl (lv (q7 underlying22 rfl aS) (lv (F9 rfl rfl) (nq (P1 rfl (fun aA=>?_) (fun aA=>?_)))))))))
 ·have h8:=Z8 aA hm
  refine sr (lv (r_t rfl) (nq (rr ?_)))
  cases oi h8
  exact ey results6 ⟨K,rfl,hS⟩
 have h8:=Z7 aA hm
 refine j5 (qr (mv rfl ?_))
 obtain⟨f,bh,bi⟩:=ob h8
 refine lk c68 (a8F F hS.enter0 aS bh) ?_
 rintro cZ da ⟨m,o,q,s,x,y,B,C,D,G,H,I,ae,af,ag,ah,ai,aj,db,rfl,bj,ak,am,X,an,aC,aD,aE,aF,aG,aH⟩
 have bk:=(hS.c0 bj).t5
 refine mv rfl (lv (B2 rfl rfl) (lv (B2 rfl rfl) (lv (B2 rfl rfl) (al E2 bk fun Y dc bl=>?_))))
 have bm:SH _ _ _ _ _ [u9 Y [V3 none 0 0,V3 none 0 0] 26,_,_,_,_,_]:=bl
 refine al F2 bm fun aa dd bn=>?_
 have bo:SH _ _ _ _ _ [u9 aa [V3 none 0 0,V3 none 0 0] 30,_,_,_,_,_,_]:=bn
 refine al C6 bo fun aI de bp=>?_
 have bq:SH _ _ _ _ _ [u9 aI [V6 0,sv [],V3 none 0 0,V6 0,V6 0,V3 none 0 0] 33,_,_,_,_,_,_,_]:=bp
 refine lw [V3 m o q,V3 s x y] E2 bq.f2 fun df br=>(lw [V3 B C D,V3 G H I] F2 br.f2 fun dg bs=>(lw [V6 f.2.2.Kind,sv f.2.2.Field,V3 ae af ag,V6 f.2.2.From,V6 f.2.2.To,V3 ah ai aj] C6 bs.f2 fun dh ab=>(nr (lv (n8 (ds:=[V3 m o q,V3 s x y]) E2 rfl m2 ab rfl rfl) (lv (n8 (ds:=[V3 B C D,V3 G H I]) F2 rfl m1 ab rfl rfl) (lv (n8 (ds:=[V6 f.2.2.Kind,sv f.2.2.Field,V3 ae af ag,V6 f.2.2.From,V6 f.2.2.To,V3 ah ai aj]) C6 rfl m0 ab rfl rfl) ?_))))))
 obtain⟨di,bu,bv⟩:=ob bi
 refine lk c6u (a69 F ab.enter0 ak am X an aC aD aE aF aG aH (hG6.keep ab) hD bu) ?_
 rintro dj dk ⟨aJ,aK,aL,bx,rfl,d,ao⟩
 have ap:=(ab.c0 d).t9
 refine av rfl (ns (p9 ?_))
 obtain⟨bz,bA,bB⟩:=ob bv
 refine l6 (IV w K [] bx [(3,pt Y),(4,pt aa),(5,pt aI),(6,V3 aJ aK aL),(36,.bool bz)] [u9 Y [V3 m o q,V3 s x y] 26,u9 aa [V3 B C D,V3 G H I] 30,u9 aI [V6 f.2.2.Kind,sv f.2.2.Field,V3 ae af ag,V6 f.2.2.From,V6 f.2.2.To,V3 ah ai aj] 33]) ?_ ?_
 ·refine j3 (mv rfl (lv (n8 (ds:=[V3 m o q,V3 s x y]) E2 rfl m3 ap rfl rfl) (lv (n8 (ds:=[V3 B C D,V3 G H I]) F2 rfl m2 ap rfl rfl) (lv (n8 (ds:=[V6 f.2.2.Kind,sv f.2.2.Field,V3 ae af ag,V6 f.2.2.From,V6 f.2.2.To,V3 ah ai aj]) C6 rfl m1 ap rfl rfl) ?_))))
  obtain⟨dl,bC,bD⟩:=ob bA
  refine lk c6x (a7b F ap.enter0 (ak.mono d.le) (am.mono d.le) (X.mono d.le) (an.mono d.le) aC aD (aE.mono d.le) aF aG (aH.mono d.le) bC) ?_
  rintro dm dn ⟨dp,dq,dt,du,rfl,J,bE⟩
  have aT:=(ap.c0 J).t10
  obtain⟨dv,bF,bG⟩:=ob bD
  refine lk c6v (a7Q F aT.enter0 (ao.mono J.le) bE bF) ?_
  rintro dw dx ⟨bH,rfl,T⟩
  have aq:=(aT.c0 T).t10
  refine lv (A4 rfl) (mv rfl (bt bG (fun l aM=>?_) (fun l aM=>?_)))
  ·refine lu l (lu l (lu l (lu l (lv (L8 rfl l rfl) (i8 ?_)))))
   cases oi aM
   exact qd ⟨bH,rfl,aq.f2.f3.f4.s,(J.le.trans T.le)⟩
  refine lg l (n8 (ds:=[V3 m o q,V3 s x y]) E2 rfl m4 aq rfl rfl) (lg l (n8 (ds:=[V3 B C D,V3 G H I]) F2 rfl m3 aq rfl rfl) ?_)
  obtain⟨dy,bI,bJ⟩:=ob aM
  refine A0 (wg rfl rfl l) rfl (z7 (vs:=[.agg #[V3 m o q,V3 s x y],.agg #[V3 B C D,V3 G H I]]) c1s rfl) (a2Z F aq.enter0 (ak.mono ((d.le.trans J.le).trans T.le)) (am.mono ((d.le.trans J.le).trans T.le)) (X.mono ((d.le.trans J.le).trans T.le)) (an.mono ((d.le.trans J.le).trans T.le)) bI) ?_
  rintro dz dA ⟨bK,rfl,aU⟩
  refine⟨_,rfl,?_⟩
  have bL:=(aq.c0 aU).t10
  refine lg l (A4 rfl) (lv (o4 rfl l rfl) (i8 ?_))
  cases oi bJ
  exact qd ⟨bK,rfl,bL.f2.f3.f4.s,((J.le.trans T.le).trans aU.le)⟩
 rintro _ dB ⟨dC,rfl,O,i⟩
 refine l4 (D4 bB rfl (fun bM aN=>?_) (fun bM aN=>?_))
 ·refine sr (mv rfl (lv (n8 (ds:=[V3 m o q,V3 s x y]) E2 rfl m0 O rfl rfl) (lv (n8 (ds:=[V3 B C D,V3 G H I]) F2 rfl m1 O rfl rfl) (lv (n8 (ds:=[V6 f.2.2.Kind,sv f.2.2.Field,V3 ae af ag,V6 f.2.2.From,V6 f.2.2.To,V3 ah ai aj]) C6 rfl m2 O rfl rfl) ?_))))
  obtain⟨dD,bN,bO⟩:=ob aN
  refine lk c6x (a7b F O.enter0 (ak.mono (d.le.trans i)) (am.mono (d.le.trans i)) (X.mono (d.le.trans i)) (an.mono (d.le.trans i)) aC aD (aE.mono (d.le.trans i)) aF aG (aH.mono (d.le.trans i)) bN) ?_
  rintro dE dF ⟨dG,dH,dI,dJ,rfl,aV,bP⟩
  have aW:=(O.c0 aV).t4
  obtain⟨dK,bQ,bR⟩:=ob bO
  refine lk c6v (a7Q F aW.enter0 (ao.mono (i.trans aV.le)) bP bQ) ?_
  rintro dL dM ⟨bS,rfl,bT⟩
  have bU:=(aW.c0 bT).t4
  refine av rfl (nq (rr ?_))
  cases oi bR
  exact ey results6 ⟨bS,rfl,bU.s⟩
 refine j5 (qr (fl S5 rfl a4l m1 O rfl (mv rfl ?_)))
 obtain⟨dN,bV,bW⟩:=ob aN
 refine lk c69 (b1T F O.enter0 (X.mono (d.le.trans i)) (ao.mono i) (by decide :([114,97,116,101]:q9).length≤maxLen) bV) ?_
 rintro dO dP ⟨bX,bY,bZ,aO,rfl,U,ar⟩
 have ca:=(O.c0 U).t4
 refine av rfl (nr (lv (N4 rfl) (P6 (lv (N4 rfl) (nq ?_)))))
 obtain⟨cb,cc,aw⟩:=ob bW
 refine l6 (fun E' w'=>∃ax ay,cb= .inl ax∧E'=[(6,V3 aJ aK aL),(8,V6 ax)]∧SH w K [] w' ay []∧I9 aO ay∧i7 ax) ?_ ?_
 ·refine j7 ?_
  obtain⟨dQ,cd,aX⟩:=ob cc
  have ce:=ca.sb (sd (sk (sk (sd sz))))
  refine qw (fun (au:Int×Int)=>IW w K [] aO [(3,pt Y),(4,pt aa),(6,V3 aJ aK aL),(7,V3 bX bY bZ),(8,V6 au.1),(9,V6 au.2)] [u9 Y [V3 m o q,V3 s x y] 26,u9 aa [V3 B C D,V3 G H I] 30] (i7 au.1∧i7 au.2)) cd ⟨aO,rfl,ce,kr,M1,M1⟩ ?_
  rintro au _ dR dS cf aY ⟨aP,rfl,aZ,k,cg,dT⟩
  refine p9 (sr (mv rfl (mv rfl (lv (q7 underlying54 rfl (ar.mono k)) (lv (s7 rfl rfl) (nq (D4 cf rfl (fun ch aQ=>?_) (fun ch aQ=>?_))))))))
  ·refine j5 (qs (j7 (p9 ?_)))
   have ba:=aZ.drew
   refine wh1 (fun w'=>G8 aP w') (fun w'=>True) 13 [] mixed (ba.hasK kr) (fun _=>trivial) (gt (i5 rfl) (gt (i5 rfl) ?_))
   obtain⟨R,cj,ck⟩:=ob aQ
   refine gi underlying54 b4o (ar.mono k) cj fun cl cm dU cn cp=>?_
   obtain⟨rfl,cq,dV⟩:=cn
   have cr:E9 _ cl cm [V6 R.Num,V6 R.Many]:=cp
   refine gt (c9 b5w rfl) (gh (fun _ h=>T7 E4 rfl (cr 0 _ rfl) h) (gt (i5 rfl) (gt (i5 rfl) ?_)))
   obtain⟨S,ct,cu⟩:=ob ck
   refine gi underlying54 b4o (ar.mono k) ct fun cv cw dW cx cy=>?_
   obtain⟨rfl,cz,dX⟩:=cx
   have cA:E9 _ cv cw [V6 S.Num,V6 S.Many]:=cy
   refine gt (c9 b5w rfl) (gh (fun _ h=>T7 E4 rfl (cA 0 _ rfl) h) (gt (D3 (cs:=#[V6 6,sv [114,97,116,101],V3 none 0 0,V6 R.Num,V6 S.Num,V3 none 0 0]) b3N C6 rfl (by kernel_rfl)) (gn (al C6 ba fun bb dY cB=>?_))))
   have bc:SH _ _ _ _ _ [u9 bb [V6 0,sv [],V3 none 0 0,V6 0,V6 0,V3 none 0 0] 33,_,_]:=cB
   refine i8 (qh (bc.hasK kr) (fun _=>trivial) (gn (ls [V6 6,sv [114,97,116,101],V3 none 0 0,V6 R.Num,V6 S.Num,V3 none 0 0] (.agg #[V6 6,sv [114,97,116,101],V3 none 0 0,V6 R.Num,V6 S.Num,V3 none 0 0]) C6 bc fun dZ bd=>(i8 (qh (bd.hasK kr) (fun _=>trivial) (gd' (qs (p9 ?_))))))))
   have V:=bd.drew
   refine j_0 (fun w'=>G8 aP w'∧A9 Y [V3 m o q,V3 s x y] w'∧A9 aa [V3 B C D,V3 G H I] w'∧A9 bb [V6 6,sv [114,97,116,101],V3 none 0 0,V6 R.Num,V6 S.Num,V3 none 0 0] w') 13 [] mixed ⟨V.hasK kr,V.hasObj m1,V.hasObj m2,V.hasObj m0⟩ (jv 0 rfl (i5 rfl) (jh 1 rfl (fun _ h=>B4 (ds:=[V3 m o q,V3 s x y]) E2 rfl rfl rfl h.2.1) (jh 2 rfl (fun _ h=>B4 (ds:=[V3 B C D,V3 G H I]) F2 rfl rfl rfl h.2.2.1) (jh 3 rfl (fun _ h=>B4 (ds:=[V6 6,sv [114,97,116,101],V3 none 0 0,V6 R.Num,V6 S.Num,V3 none 0 0]) C6 rfl rfl rfl h.2.2.2) (jv 7 rfl (i5 rfl) (jv 8 rfl (i5 rfl) ?_))))))
   obtain⟨be,cC,cD⟩:=ob cu
   refine ji 9 rfl underlying54 b4o (ar.mono k) cC fun cE cF ea cG cH=>?_
   obtain⟨rfl,eb,ec⟩:=cG
   have cI:E9 _ cE cF [V6 be.Num,V6 be.Many]:=cH
   refine jv 10 rfl (c9 b5x rfl) (jh 11 rfl (fun _ h=>T7 E4 rfl (cI 1 _ rfl) h.1) (j1 4 rfl ?_))
   obtain⟨ed,cJ,cK⟩:=ob cD
   refine lk c6u ((a69 F (q2:=(r5.mk (6:Int) ([114,97,116,101]:q9) ([]:List q9) R.Num S.Num ([]:List r5)))) V.enter0 (b7.mono (((d.le.trans i).trans U.le).trans k) ak) (b7.mono (((d.le.trans i).trans U.le).trans k) am) (b7.mono (((d.le.trans i).trans U.le).trans k) X) (b7.mono (((d.le.trans i).trans U.le).trans k) an) (by decide :i7 6) (by decide :([114,97,116,101]:q9).length≤maxLen) (b7.nil _ _) cq cz (b7.nil _ _) (hG6.keep V) hD cJ) ?_
   rintro ee ef ⟨eg,eh,ei,ej,rfl,ac,cL⟩
   have ad:=(V.c0 ac).t4
   refine R7 ⟨ad.hasK ac.le,ad.hasObj m2,ad.hasObj m3,ad.hasObj m1⟩ (j1 5 rfl ?_)
   obtain⟨ek,cM,cN⟩:=ob cK
   refine lk c7a (b29 F ad.enter0 (b7.mono (((i.trans U.le).trans k).trans ac.le) ao) cL cM) ?_
   rintro el em ⟨en,eo,ep,bf,rfl,az,cO⟩
   have W:=(ad.c0 az).t5
   refine R7 ⟨W.hasK (ac.le.trans az.le),W.hasObj m3,W.hasObj m4,W.hasObj m2⟩ (jv 6 rfl (q7 underlying51 rfl cO) (jv 12 rfl (S7 rfl rfl) (jd (l4 (D4 cN rfl (fun cP aR=>?_) (fun cP aR=>?_))))))
   ·refine sr (lv (P2 rfl) (nq (rr (j6 (g8 (g8 ?_))))))
    cases oi aR
    cases aY _ rfl
    refine j6 (g8 ?_)
    cases oi aX
    refine g8 ?_
    cases oi aw
    exact ey results6 ⟨bf,rfl,W.s⟩
   refine j5 (l4 (j3 (mv rfl (mv rfl (mv rfl ?_)))))
   obtain⟨bg,cQ,cR⟩:=ob aR
   refine li underlying54 b4o (ar.mono ((k.trans ac.le).trans az.le)) cQ fun cS cT eq cU cV=>?_
   obtain⟨rfl,es,et⟩:=cU
   have cW:E9 _ cS cT [V6 bg.Num,V6 bg.Many]:=cV
   refine fa b5x rfl (lv (y7 E4 rfl W (cW 1 _ rfl)) (lv (y4 rfl rfl) (av rfl (nb (l4 (j3 (mv rfl (lv (y4 rfl rfl) (av rfl ?_)))))))))
   refine i8 ?_
   cases oi cR
   exact qd ⟨_,rfl,bf,rfl,W.s,((k.trans ac.le).trans az.le),(s6 _),(s6 _)⟩
  refine w8 (g6 (g6 ?_))
  cases oi aQ
  cases aY _ rfl
  refine l5 ?_
  cases oi aX
  exact qd ⟨_,aP,rfl,rfl,aZ.s,k,cg⟩
 rintro _ eu ⟨ax,ay,rfl,rfl,cX,cY,ev⟩
 have aw:=F6 aw
 refine qr (mv rfl (mv rfl (lv (q7 underlying51 rfl (ao.mono ((i.trans U.le).trans cY))) (lv (W5 rfl rfl) (av rfl (nq (l3 ?_)))))))
 cases oi aw
 exact ey results6 ⟨ay,rfl,cX⟩
end Go.Proofs.YtepcfgnicnibnaaGreatDoor
