/-
 Walks of the functions. Printed by gen.py.
-/
import Derived.Test.YtnloenhmkdpgeaaGreatDoorModelLTopAfter
import Derived.Test.YtnloenhmkdpgeaaGreatDoorWalkA0
import Derived.Test.YtnloenhmkdpgeaaGreatDoorWalkA1
import Derived.Test.YtnloenhmkdpgeaaGreatDoorWalkA2
import Derived.Test.YtnloenhmkdpgeaaGreatDoorWalkA3
import Derived.Test.YtnloenhmkdpgeaaGreatDoorWalkA4
import Derived.Test.YtnloenhmkdpgeaaGreatDoorWalkA5
import Derived.Test.YtnloenhmkdpgeaaGreatDoorWalkA6
set_option linter.unusedVariables false
set_option linter.unusedSectionVars false
set_option maxRecDepth 100000
namespace Go.Proofs.YtnloenhmkdpgeaaGreatDoor
set_option maxHeartbeats 4000000
open Go Go.Fk Go.RowKit Tryz
variable (F:Nat){w:World}{K:F9}{Z:List Nat}{g1 g2 g3:Nat}{A B C D G H I J O R S T:Option Addr}{a b c d f i k l m n o p q s v x y aa ab ac ad ae af ag:Nat}
variable [dr:Dr]

theorem b2C {q0:E3}{q1:E3}{r:Bool}(hS:SH w K [] w K [])(q:i7 q0.Doc)(s:i7 q0.Points)(x:i7 q1.Doc)(y:i7 q1.Points)(hm:a2I F q0 q1=some r):
  Calls prog 50 #[.agg #[V6 q0.Doc,V6 q0.Points],.agg #[V6 q1.Doc,V6 q1.Points]] w (R_b w K r):=by
 rw [a2I] at hm
 refine ci func50 rfl ntmps50 (sr (bx rfl hS fun i A k=>?_))
 have l:SH _ _ _ _ _ [s7 i [V6 q0.Doc,V6 q0.Points] 71]:=k
 refine bx rfl l fun m B o=>?_
 have b:SH _ _ _ _ _ [s7 m [V6 q1.Doc,V6 q1.Points] 71,_]:=o
 refine lv (O6 rfl) (nr (fl a4O rfl E6 m1 b rfl (fl a4O rfl E6 m0 b rfl (lv (E7 rfl rfl) (mv rfl (bt hm (fun a d=>?_) (fun a d=>?_)))))))
 ·iterate 6 refine lu a ?_
  refine A8 (uu rfl rfl) rfl (A8 (uu rfl rfl) rfl (A8 (uu rfl rfl) rfl (A8 (uu rfl rfl) rfl (A8 (uu rfl rfl) rfl (lu a (lv (J6 rfl a rfl) (av rfl (nq (j9 ?_)))))))))
  cases oi d
  exact ey results50 ⟨K,rfl,b.s⟩
 refine lg a (c7 a4O rfl) (lg a (w8 E6 rfl m1 b rfl) (lg a (c7 a4O rfl) (lg a (w8 E6 rfl m0 b rfl) (lg a (A9 rfl rfl) (lg a (i5 rfl) (bt d (fun c f=>?_) (fun c f=>?_)))))))
 ·refine lg c (c7 a4N rfl) (lg c (w8 E6 rfl m1 b rfl) (lg c (c7 a4N rfl) (lg c (w8 E6 rfl m0 b rfl) (lg c (u7 rfl rfl) (lg a (n9 rfl c rfl) (lv (l9 rfl a rfl) (av rfl (nq (j9 ?_)))))))))
  cases oi f
  exact ey results50 ⟨K,rfl,b.s⟩
 iterate 5 refine lu c ?_
 refine lg a (L8 rfl c rfl) (lv (l9 rfl a rfl) (av rfl (nq (j9 ?_))))
 cases oi f
 exact ey results50 ⟨K,rfl,b.s⟩

theorem b5E {q0:List UInt8}{r:u6×A5×q7×Int×E3}(hS:SH w K [] w K [])(bF:b7 W8 K A a b q0)(hm:k5 F q0=some r):
  Calls prog 52 #[V3 A a b] w fun e w'=>∃a_1 n_2 c_3 a_5 n_6 c_7 a_9 n_10 c_11 a_13 n_14 c_15 a_19 n_20 c_21 a_25 n_26 c_27 K',e= .returned (.tuple #[.agg #[V3 a_1 n_2 c_3,V3 a_5 n_6 c_7],.agg #[V3 a_9 n_10 c_11,V3 a_13 n_14 c_15],.agg #[V6 r.2.2.1.Kind,sv r.2.2.1.Field,V3 a_19 n_20 c_21,V6 r.2.2.1.From,V6 r.2.2.1.To,V3 a_25 n_26 c_27],V6 r.2.2.2.1,.agg #[V6 r.2.2.2.2.Doc,V6 r.2.2.2.2.Points]])∧SH w K [] w' K' [tail (V3 a_1 n_2 c_3) 9 1,tail (V3 a_5 n_6 c_7) 144 2,tail (V3 a_13 n_14 c_15) 99 3,tail (V3 a_19 n_20 c_21) 9 1,tail (V3 a_25 n_26 c_27) 35 6]∧b7 D9 K' a_1 n_2 c_3 r.1.Stops∧b7 L0 K' a_5 n_6 c_7 r.1.Syns∧b7 F6 K' a_9 n_10 c_11 r.2.1.Docs∧b7 B8 K' a_13 n_14 c_15 r.2.1.Entries∧i7 r.2.2.1.Kind∧r.2.2.1.Field.length≤maxLen∧b7 D9 K' a_19 n_20 c_21 r.2.2.1.Words∧i7 r.2.2.1.From∧i7 r.2.2.1.To∧b7 F4 K' a_25 n_26 c_27 r.2.2.1.Kids∧i7 r.2.2.2.1∧i7 r.2.2.2.2.Doc∧i7 r.2.2.2.2.Points:=by
 rw [k5] at hm
 refine ci func52 rfl ntmps52 (sr (al B9 hS fun g5 w6 bG=>?_))
 have bH:SH _ _ _ _ _ [s7 g5 [V3 none 0 0,V3 none 0 0] 26]:=bG
 refine al C4 bH fun g9 dy bI=>?_
 have bJ:SH _ _ _ _ _ [s7 g9 [V3 none 0 0,V3 none 0 0] 30,_]:=bI
 refine al B1 bJ fun ba dz bK=>?_
 have bL:SH _ _ _ _ _ [s7 ba [V6 0,sv [],V3 none 0 0,V6 0,V6 0,V3 none 0 0] 35,_,_]:=bK
 refine lv (N2 rfl) (al Q2 bL fun bb dA bM=>?_)
 have bm:SH _ _ _ _ _ [s7 bb [V6 0,V6 0] 71,_,_,_]:=bM
 refine nr (mv rfl ?_)
 obtain⟨dB,bN,bO⟩:=ob hm
 refine lk c1H (a2k F bm.enter0 bF bN) ?_
 rintro dC dD ⟨bc,dE,dF,dG,dH,rfl,bP,bQ,bR⟩
 have bn:=(bm.c0 bP).t5
 refine av rfl (nr (mv rfl ?_))
 obtain⟨dI,bS,bT⟩:=ob bO
 refine lk c2Q (a2A F bn.e1 bQ bR bS) ?_
 rintro dJ dK ⟨m,o,q,s,x,y,T,U,V,B,C,D,dL,dM,dN,dO,rfl,bU,aM,aN,aO,aP,bV,bW⟩
 have bX:=(bn.c1 bU).t8
 refine mv rfl (lv (y3 rfl rfl) (lv (y3 rfl rfl) (al B9 bX fun ap dP bY=>?_)))
 have bZ:SH _ _ _ _ _ [s7 ap [V3 none 0 0,V3 none 0 0] 26,_,_,_,_,_,_,_,_]:=bY
 refine al C4 bZ fun aq dQ ca=>?_
 have cb:SH _ _ _ _ _ [s7 aq [V3 none 0 0,V3 none 0 0] 30,_,_,_,_,_,_,_,_,_]:=ca
 refine lw [V3 m o q,V3 s x y] B9 cb.f1 fun dR cc=>(lw [V3 T U V,V3 B C D] C4 cc.f1 fun dS cd=>(nr (mv rfl ?_)))
 obtain⟨d,ce,cf⟩:=ob bT
 have bo:=cd.f5
 refine lk b4B (a3q F bo.e1 bV bW (by decide :i7 3) ce) ?_
 rintro dT dU ⟨G,H,I,J,O,R,dV,dW,dX,dY,rfl,S,aQ,aR,aS,aT,aU,aV,cg,ch⟩
 have cj:=(bo.c1 S).t12
 refine al B1 cj fun ar dZ ck=>?_
 have cl:SH _ _ _ _ _ [s7 ar [V6 0,sv [],V3 none 0 0,V6 0,V6 0,V3 none 0 0] 35,_,_,_,_,_,_,_,_,_,_,_,_]:=ck
 refine lw [V6 d.1.Kind,sv d.1.Field,V3 G H I,V6 d.1.From,V6 d.1.To,V3 J O R] B1 cl fun ea cm=>(nr (mv rfl (J2 (t:=D6) (n:=5) (pv:=[(0,V6 1),(1,V6 2),(2,V6 3),(3,V6 16),(4,V6 0)]) (cs:=[V6 1,V6 2,V6 3,V6 16,V6 0]) (xs:=[(1:Int),(2:Int),(3:Int),(16:Int),(0:Int)]) wn rfl underlying46 E6 rfl rfl rfl (by kernel_rfl) rfl rfl (H5 (u:=V6 1) (z:=(1:Int)) ⟨rfl,(by decide :i7 1)⟩ (H5 (u:=V6 2) (z:=(2:Int)) ⟨rfl,(by decide :i7 2)⟩ (H5 (u:=V6 3) (z:=(3:Int)) ⟨rfl,(by decide :i7 3)⟩ (H5 (u:=V6 16) (z:=(16:Int)) ⟨rfl,(by decide :i7 16)⟩ (H5 (u:=V6 0) (z:=(0:Int)) ⟨rfl,I5⟩ a1W))))) cm fun eb ec ed f cn cp=>?_)))
 obtain⟨cq,cr,ct⟩:=ob cf
 have bp:=cp.f4
 refine lk c4z (a4z F bp.e1 (cg.mono f) ch cn cr) ?_
 rintro ee ef ⟨cu,cv,cw,eg,rfl,i,bd,bq,br⟩
 have au:SH _ _ _ _ _ [_,_,_,_,_,_,_,_,_,_,_,_,_,_]:=SH.call (Lin:=[_]) bp i
 refine av rfl (nr (lv (j6 (ds:=[V3 m o q,V3 s x y]) B9 rfl m6 au rfl rfl) (lv (j6 (ds:=[V3 T U V,V3 B C D]) C4 rfl m5 au rfl rfl) (lv (j6 (ds:=[V6 d.1.Kind,sv d.1.Field,V3 G H I,V6 d.1.From,V6 d.1.To,V3 J O R]) B1 rfl m2 au rfl rfl) ?_))))
 obtain⟨eh,cx,cy⟩:=ob ct
 refine lk c69 (b3Q F au.enter0 (aM.mono ((S.le.trans f).trans i.le)) (aN.mono ((S.le.trans f).trans i.le)) (aO.mono ((S.le.trans f).trans i.le)) (aP.mono ((S.le.trans f).trans i.le)) aQ aR (aS.mono (f.trans i.le)) aT aU (aV.mono (f.trans i.le)) (by decide :i7 16) cx) ?_
 rintro ei ej ⟨cz,cA,cB,bs,rfl,k,aW⟩
 have be:SH _ _ _ _ _ [_,_,_,_,_,_,_,_,_,_,_,_,_,_]:=SH.call0 au k
 refine av rfl (ns (o4 ?_))
 obtain⟨aX,cC,cD⟩:=ob cy
 refine l4 (fun E' w'=>∃bf bg bh aj,E'=[(2,pt g5),(3,pt g9),(4,pt ba),(6,pt bb),(7,pt bc),(8,pt ap),(9,pt aq),(10,pt ar),(11,V6 cq.1),(12,V3 cz cA cB),(36,.bool aX.1)]∧SH w K [] w' aj [s7 g5 [V3 none 0 0,V3 none 0 0] 26,s7 g9 [V3 none 0 0,V3 none 0 0] 30,s7 ba [V6 0,sv [],V3 none 0 0,V6 0,V6 0,V3 none 0 0] 35,s7 bb [V6 0,V6 0] 71,s7 bc [V3 bf bg bh,V6 aX.2.p_] 141,s7 ap [V3 m o q,V3 s x y] 26,tail (V3 m o q) 9 1,tail (V3 s x y) 144 2,s7 aq [V3 T U V,V3 B C D] 30,tail (V3 B C D) 99 3,s7 ar [V6 d.1.Kind,sv d.1.Field,V3 G H I,V6 d.1.From,V6 d.1.To,V3 J O R] 35,tail (V3 G H I) 9 1,tail (V3 J O R) 35 6]∧M0 bs aj∧b7 W8 aj bf bg bh aX.2.b_∧i7 aX.2.p_) ?_ ?_
 ·refine j5 (mv rfl (lv (q9 underlying57 rfl aW) (lv (E7 rfl rfl) (mv rfl (bt cC (fun ae bi=>?_) (fun ae bi=>?_))))))
  ·refine lg ae (i5 rfl) ?_
   obtain⟨ek,cE,cF⟩:=ob bi
   refine A3 (wg rfl rfl ae) rfl (A2 (vs:=[pt bc,V6 4]) a4r rfl) (A6 F be.e1 (bq.mono k.le) br (by decide :i7 4) cE) ?_
   rintro el em ⟨cG,cH,cI,cJ,rfl,bu,en,cK,cL⟩
   refine⟨_,rfl,?_⟩
   have cM:SH _ _ _ _ _ [_,_,_,_,_,_,_,_,_,_,_,_,_,_]:=SH.call (Lin:=[_]) be bu
   refine lg ae (E7 rfl rfl) (lv (n9 rfl ae rfl) (i8 ?_))
   cases oi cF
   have cN:SH _ _ _ _ _ [_,_,_,_,_,_,_,_,_,_,_,_,_,_]:=SH.front (p:=[_,_,_,_,_,_,_,_,_,_]) cM.f4.f4.f4.f9.f6.f9.f9.f9.f8
   have cO:SH _ _ _ _ _ [_,_,_,_,_,_,_,_,_,_,_,_,_,_]:=SH.front (p:=[_,_,_,_,_,_,_,_,_,_,_]) cN
   have cP:SH _ _ _ _ _ [_,_,_,_,_,_,_,_,_,_,_,_,_,_]:=SH.front (p:=[_,_,_,_,_,_,_,_,_,_,_,_]) cO
   have cQ:SH _ _ _ _ _ [_,_,_,_,_,_,_,_,_,_,_,_,_,_]:=SH.front (p:=[_,_,_,_,_,_,_,_,_,_,_,_,_]) cP
   exact qd ⟨cG,cH,cI,cJ,rfl,cQ.s,bu.le,cK,cL⟩
  refine lu ae (lu ae (lu ae (lv (L8 rfl ae rfl) (i8 ?_))))
  cases oi bi
  have cR:SH _ _ _ _ _ [_,_,_,_,_,_,_,_,_,_,_,_,_,_]:=SH.front (p:=[_,_,_,_,_,_,_,_,_,_]) be.f4.f4.f4.f9.f6.f9.f9.f9.f8
  have cS:SH _ _ _ _ _ [_,_,_,_,_,_,_,_,_,_,_,_,_,_]:=SH.front (p:=[_,_,_,_,_,_,_,_,_,_,_]) cR
  have cT:SH _ _ _ _ _ [_,_,_,_,_,_,_,_,_,_,_,_,_,_]:=SH.front (p:=[_,_,_,_,_,_,_,_,_,_,_,_]) cS
  have cU:SH _ _ _ _ _ [_,_,_,_,_,_,_,_,_,_,_,_,_,_]:=SH.front (p:=[_,_,_,_,_,_,_,_,_,_,_,_,_]) cT
  exact qd ⟨cu,cv,cw,bs,rfl,cU.s,kr,(bq.mono k.le),br⟩
 rintro _ eo ⟨bf,bg,bh,aj,rfl,bv,l,bj,bk⟩
 refine l5 (D5 cD rfl (fun cV bl=>?_) (fun cV bl=>?_))
 ·refine o4 ?_
  have aw:=bv.drew
  refine wh1 (fun w'=>H0 aj w'∧B0 ap [V3 m o q,V3 s x y] w'∧B0 aq [V3 T U V,V3 B C D] w'∧B0 ar [V6 d.1.Kind,sv d.1.Field,V3 G H I,V6 d.1.From,V6 d.1.To,V3 J O R] w') (fun w'=>True) 16 [] mixed ⟨aw.hasK kr,aw.hasObj m5,aw.hasObj m8,aw.hasObj m10⟩ (fun _=>trivial) (gh (fun _ h=>A0 (ds:=[V3 m o q,V3 s x y]) B9 rfl rfl rfl h.2.1) (gh (fun _ h=>A0 (ds:=[V3 T U V,V3 B C D]) C4 rfl rfl rfl h.2.2.1) (gh (fun _ h=>A0 (ds:=[V6 d.1.Kind,sv d.1.Field,V3 G H I,V6 d.1.From,V6 d.1.To,V3 J O R]) B1 rfl rfl rfl h.2.2.2) (gt (i5 rfl) (gt (i5 rfl) (gt (i5 rfl) (gt (i5 rfl) (gt (q9 underlying57 rfl (aW.mono l)) (gn ?_)))))))))
  obtain⟨ep,cW,cX⟩:=ob bl
  have bx:=aw.f4
  refine lk a4r (A6 F bx.e1 bj bk (aW.mono l).rn cW) ?_
  rintro eq es ⟨et,eu,ev,cY,rfl,ab,ew,ex,eA⟩
  have ax:SH _ _ _ _ _ [_,_,_,_,_,_,_,_,_,_,_,_,_]:=SH.call (Lin:=[_]) bx ab
  refine i8 (qh ⟨ax.hasK ab.le,ax.hasObj m5,ax.hasObj m8,ax.hasObj m10⟩ (fun _=>trivial) ?_)
  obtain⟨ai,cZ,da⟩:=ob cX
  refine gi underlying57 Q2 (aW.mono l) cZ fun db dc eB dd de=>?_
  obtain⟨rfl,df,dg⟩:=dd
  have dh:F1 _ db dc [V6 ai.Doc,V6 ai.Points]:=de
  refine gh (fun _ h=>a67 (cs:=[V6 ai.Doc,V6 ai.Points]) Q2 rfl dh rfl h.1) (gn (lw [V3 m o q,V3 s x y] B9 ax.f1 fun eC ay=>(i8 (qh ⟨ay.hasK ab.le,ay.hasObj m5,ay.hasObj m8,ay.hasObj m10⟩ (fun _=>trivial) (gn (lw [V3 T U V,V3 B C D] C4 ay.f2 fun eD az=>(i8 (qh ⟨az.hasK ab.le,az.hasObj m5,az.hasObj m8,az.hasObj m10⟩ (fun _=>trivial) (gn (lw [V6 d.1.Kind,sv d.1.Field,V3 G H I,V6 d.1.From,V6 d.1.To,V3 J O R] B1 az.f3 fun eE aA=>(i8 (qh ⟨aA.hasK ab.le,aA.hasObj m5,aA.hasObj m8,aA.hasObj m10⟩ (fun _=>trivial) ?_))))))))))))
  refine gt (u9 rfl) (gn (lw [V6 ai.Doc,V6 ai.Points] Q2 aA.f4 fun eF af=>(i8 (qh ⟨af.hasK ab.le,af.hasObj m5,af.hasObj m8,af.hasObj m10⟩ (fun _=>trivial) (gd' (l5 (rr ?_)))))))
  cases oi da
  exact S7 (vs:=[_,_,_,_,_]) results52 ⟨⟨_,_,rfl,B2 B9 (cs:=[V3 m o q,V3 s x y]) (fun j c e=>by rw [Nat.zero_add,af.mem_obj m3];exact e) (.inl ⟨rfl,rfl,rfl⟩)⟩,⟨_,_,rfl,B2 C4 (cs:=[V3 T U V,V3 B C D]) (fun j c e=>by rw [Nat.zero_add,af.mem_obj m2];exact e) (.inl ⟨rfl,rfl,rfl⟩)⟩,⟨_,_,rfl,B2 B1 (cs:=[V6 d.1.Kind,sv d.1.Field,V3 G H I,V6 d.1.From,V6 d.1.To,V3 J O R]) (fun j c e=>by rw [Nat.zero_add,af.mem_obj m1];exact e) (.inl ⟨rfl,rfl,rfl⟩)⟩,rfl,⟨_,_,rfl,B2 Q2 (cs:=[V6 ai.Doc,V6 ai.Points]) (fun j c e=>by rw [Nat.zero_add,af.mem_obj m0];exact e) (.inl ⟨rfl,rfl,rfl⟩)⟩,trivial⟩ ⟨m,o,q,s,x,y,T,U,V,B,C,D,G,H,I,J,O,R,cY,rfl,af.s,(b7.mono (((((S.le.trans f).trans i.le).trans k.le).trans l).trans ab.le) aM),(b7.mono (((((S.le.trans f).trans i.le).trans k.le).trans l).trans ab.le) aN),(b7.mono (((((S.le.trans f).trans i.le).trans k.le).trans l).trans ab.le) aO),(b7.mono (((((S.le.trans f).trans i.le).trans k.le).trans l).trans ab.le) aP),aQ,aR,(b7.mono ((((f.trans i.le).trans k.le).trans l).trans ab.le) aS),aT,aU,(b7.mono ((((f.trans i.le).trans k.le).trans l).trans ab.le) aV),bd,df,dg⟩
 refine j3 (qs ?_)
 obtain⟨ak,bz,di⟩:=ob bl
 obtain⟨am,bA,bB⟩:=ob di
 have an:=bv.drew
 refine j_0 (fun w'=>H0 aj w'∧B0 ap [V3 m o q,V3 s x y] w'∧B0 aq [V3 T U V,V3 B C D] w'∧B0 ar [V6 d.1.Kind,sv d.1.Field,V3 G H I,V6 d.1.From,V6 d.1.To,V3 J O R] w') 15 [] mixed ⟨an.hasK kr,an.hasObj m5,an.hasObj m8,an.hasObj m10⟩ (jh 0 rfl (fun _ h=>A0 (ds:=[V3 m o q,V3 s x y]) B9 rfl rfl rfl h.2.1) (jh 1 rfl (fun _ h=>A0 (ds:=[V3 T U V,V3 B C D]) C4 rfl rfl rfl h.2.2.1) (jh 2 rfl (fun _ h=>A0 (ds:=[V6 d.1.Kind,sv d.1.Field,V3 G H I,V6 d.1.From,V6 d.1.To,V3 J O R]) B1 rfl rfl rfl h.2.2.2) (jv 3 rfl (i5 rfl) (jv 4 rfl (i5 rfl) (jv 6 rfl (i5 rfl) (j2 5 7 rfl rfl ?_ ?_)))))))
 ·have bC:=an.f4
  refine lk a4r (A6 F bC.e1 bj bk (by decide :i7 9) bz) ?_
  rintro eG eH ⟨eI,eJ,eK,eL,rfl,W,dj,dk,dl⟩
  have aB:SH _ _ _ _ _ [_,_,_,_,_,_,_,_,_,_,_,_,_]:=SH.call (Lin:=[_]) bC W
  refine P0 ⟨aB.hasK W.le,aB.hasObj m5,aB.hasObj m8,aB.hasObj m10⟩ (j1 7 rfl (J2 (t:=D6) (n:=4) (pv:=[(0,V6 0),(1,V6 100),(2,V6 2000),(3,V6 99999)]) (cs:=[V6 0,V6 100,V6 2000,V6 99999]) (xs:=[(0:Int),(100:Int),(2000:Int),(99999:Int)]) wn rfl underlying46 E6 rfl rfl rfl (by kernel_rfl) rfl rfl (H5 (u:=V6 0) (z:=(0:Int)) ⟨rfl,I5⟩ (H5 (u:=V6 100) (z:=(100:Int)) ⟨rfl,(by decide :i7 100)⟩ (H5 (u:=V6 2000) (z:=(2000:Int)) ⟨rfl,(by decide :i7 2000)⟩ (H5 (u:=V6 99999) (z:=(99999:Int)) ⟨rfl,(by decide :i7 99999)⟩ a1W)))) aB fun eM eN eO aa dm aC=>(P0 ⟨aC.hasK (W.le.trans aa),aC.hasObj m6,aC.hasObj m9,aC.hasObj m11⟩ (j1 8 rfl ?_))))
  have bD:=aC.f1
  refine lk c4z (a4z F bD.e1 (dk.mono aa) dl dm bA) ?_
  rintro eP eQ ⟨eR,eS,eT,dn,rfl,ac,dp,eU,eV⟩
  have aD:SH _ _ _ _ _ [_,_,_,_,_,_,_,_,_,_,_,_,_,_]:=SH.call (Lin:=[_]) bD ac
  refine P0 ⟨aD.hasK ((W.le.trans aa).trans ac.le),aD.hasObj m6,aD.hasObj m9,aD.hasObj m11⟩ (jv 9 rfl (C3 (cs:=#[V6 ak.1,V6 am.1]) c3D Q2 rfl (by kernel_rfl)) (j1 10 rfl (lw [V3 m o q,V3 s x y] B9 aD.f2 fun eW aE=>(P0 ⟨aE.hasK ((W.le.trans aa).trans ac.le),aE.hasObj m6,aE.hasObj m9,aE.hasObj m11⟩ (j1 11 rfl (lw [V3 T U V,V3 B C D] C4 aE.f3 fun eX aF=>(P0 ⟨aF.hasK ((W.le.trans aa).trans ac.le),aF.hasObj m6,aF.hasObj m9,aF.hasObj m11⟩ (j1 12 rfl (lw [V6 d.1.Kind,sv d.1.Field,V3 G H I,V6 d.1.From,V6 d.1.To,V3 J O R] B1 aF.f4 fun eY aG=>?_)))))))))
  refine P0 ⟨aG.hasK ((W.le.trans aa).trans ac.le),aG.hasObj m6,aG.hasObj m9,aG.hasObj m11⟩ (jv 13 rfl (u9 rfl) (j1 14 rfl (lw [V6 ak.1,V6 am.1] Q2 aG.f5 fun eZ ag=>(P0 ⟨ag.hasK ((W.le.trans aa).trans ac.le),ag.hasObj m6,ag.hasObj m9,ag.hasObj m11⟩ (jd (l5 (j9 ?_)))))))
  cases oi bB
  exact S7 (vs:=[_,_,_,_,_]) results52 ⟨⟨_,_,rfl,B2 B9 (cs:=[V3 m o q,V3 s x y]) (fun j c e=>by rw [Nat.zero_add,ag.mem_obj m3];exact e) (.inl ⟨rfl,rfl,rfl⟩)⟩,⟨_,_,rfl,B2 C4 (cs:=[V3 T U V,V3 B C D]) (fun j c e=>by rw [Nat.zero_add,ag.mem_obj m2];exact e) (.inl ⟨rfl,rfl,rfl⟩)⟩,⟨_,_,rfl,B2 B1 (cs:=[V6 d.1.Kind,sv d.1.Field,V3 G H I,V6 d.1.From,V6 d.1.To,V3 J O R]) (fun j c e=>by rw [Nat.zero_add,ag.mem_obj m1];exact e) (.inl ⟨rfl,rfl,rfl⟩)⟩,rfl,⟨_,_,rfl,B2 Q2 (cs:=[V6 ak.1,V6 am.1]) (fun j c e=>by rw [Nat.zero_add,ag.mem_obj m0];exact e) (.inl ⟨rfl,rfl,rfl⟩)⟩,trivial⟩ ⟨m,o,q,s,x,y,T,U,V,B,C,D,G,H,I,J,O,R,dn,rfl,ag.s,(b7.mono (((((((S.le.trans f).trans i.le).trans k.le).trans l).trans W.le).trans aa).trans ac.le) aM),(b7.mono (((((((S.le.trans f).trans i.le).trans k.le).trans l).trans W.le).trans aa).trans ac.le) aN),(b7.mono (((((((S.le.trans f).trans i.le).trans k.le).trans l).trans W.le).trans aa).trans ac.le) aO),(b7.mono (((((((S.le.trans f).trans i.le).trans k.le).trans l).trans W.le).trans aa).trans ac.le) aP),aQ,aR,(b7.mono ((((((f.trans i.le).trans k.le).trans l).trans W.le).trans aa).trans ac.le) aS),aT,aU,(b7.mono ((((((f.trans i.le).trans k.le).trans l).trans W.le).trans aa).trans ac.le) aV),bd,dj,dp⟩
 refine J2 (t:=D6) (n:=4) (pv:=[(0,V6 0),(1,V6 100),(2,V6 2000),(3,V6 99999)]) (cs:=[V6 0,V6 100,V6 2000,V6 99999]) (xs:=[(0:Int),(100:Int),(2000:Int),(99999:Int)]) wn rfl underlying46 E6 rfl rfl rfl (by kernel_rfl) rfl rfl (H5 (u:=V6 0) (z:=(0:Int)) ⟨rfl,I5⟩ (H5 (u:=V6 100) (z:=(100:Int)) ⟨rfl,(by decide :i7 100)⟩ (H5 (u:=V6 2000) (z:=(2000:Int)) ⟨rfl,(by decide :i7 2000)⟩ (H5 (u:=V6 99999) (z:=(99999:Int)) ⟨rfl,(by decide :i7 99999)⟩ a1W)))) an fun fb fc fd X dq aH=>(P0 ⟨aH.hasK X,aH.hasObj m6,aH.hasObj m9,aH.hasObj m11⟩ (j1 5 rfl ?_))
 have bE:=aH.f5
 refine lk a4r (A6 F bE.e1 (bj.mono X) bk (by decide :i7 9) bz) ?_
 rintro fe fg ⟨fh,fi,fj,fk,rfl,Y,dr,dt,du⟩
 have ao:SH _ _ _ _ _ [_,_,_,_,_,_,_,_,_,_,_,_,_,_]:=SH.call (Lin:=[_]) bE Y
 refine P0 ⟨ao.hasK (X.trans Y.le),ao.hasObj m6,ao.hasObj m9,ao.hasObj m11⟩ (j1 8 rfl (lk c4z (a4z F ao.e1 dt du (dq.mono Y.le) bA) ?_))
 rintro fm fn ⟨fo,fp,fq,dv,rfl,ad,dw,fr,fs⟩
 have aI:SH _ _ _ _ _ [_,_,_,_,_,_,_,_,_,_,_,_,_,_]:=SH.call (Lin:=[_]) ao ad
 refine P0 ⟨aI.hasK ((X.trans Y.le).trans ad.le),aI.hasObj m6,aI.hasObj m9,aI.hasObj m11⟩ (jv 9 rfl (C3 (cs:=#[V6 ak.1,V6 am.1]) c3D Q2 rfl (by kernel_rfl)) (j1 10 rfl (lw [V3 m o q,V3 s x y] B9 aI.f2 fun ft aJ=>(P0 ⟨aJ.hasK ((X.trans Y.le).trans ad.le),aJ.hasObj m6,aJ.hasObj m9,aJ.hasObj m11⟩ (j1 11 rfl (lw [V3 T U V,V3 B C D] C4 aJ.f3 fun fu aK=>(P0 ⟨aK.hasK ((X.trans Y.le).trans ad.le),aK.hasObj m6,aK.hasObj m9,aK.hasObj m11⟩ (j1 12 rfl (lw [V6 d.1.Kind,sv d.1.Field,V3 G H I,V6 d.1.From,V6 d.1.To,V3 J O R] B1 aK.f4 fun fv aL=>?_)))))))))
 refine P0 ⟨aL.hasK ((X.trans Y.le).trans ad.le),aL.hasObj m6,aL.hasObj m9,aL.hasObj m11⟩ (jv 13 rfl (u9 rfl) (j1 14 rfl (lw [V6 ak.1,V6 am.1] Q2 aL.f5 fun fw ah=>(P0 ⟨ah.hasK ((X.trans Y.le).trans ad.le),ah.hasObj m6,ah.hasObj m9,ah.hasObj m11⟩ (jd (l5 (j9 ?_)))))))
 cases oi bB
 exact S7 (vs:=[_,_,_,_,_]) results52 ⟨⟨_,_,rfl,B2 B9 (cs:=[V3 m o q,V3 s x y]) (fun j c e=>by rw [Nat.zero_add,ah.mem_obj m3];exact e) (.inl ⟨rfl,rfl,rfl⟩)⟩,⟨_,_,rfl,B2 C4 (cs:=[V3 T U V,V3 B C D]) (fun j c e=>by rw [Nat.zero_add,ah.mem_obj m2];exact e) (.inl ⟨rfl,rfl,rfl⟩)⟩,⟨_,_,rfl,B2 B1 (cs:=[V6 d.1.Kind,sv d.1.Field,V3 G H I,V6 d.1.From,V6 d.1.To,V3 J O R]) (fun j c e=>by rw [Nat.zero_add,ah.mem_obj m1];exact e) (.inl ⟨rfl,rfl,rfl⟩)⟩,rfl,⟨_,_,rfl,B2 Q2 (cs:=[V6 ak.1,V6 am.1]) (fun j c e=>by rw [Nat.zero_add,ah.mem_obj m0];exact e) (.inl ⟨rfl,rfl,rfl⟩)⟩,trivial⟩ ⟨m,o,q,s,x,y,T,U,V,B,C,D,G,H,I,J,O,R,dv,rfl,ah.s,(b7.mono (((((((S.le.trans f).trans i.le).trans k.le).trans l).trans X).trans Y.le).trans ad.le) aM),(b7.mono (((((((S.le.trans f).trans i.le).trans k.le).trans l).trans X).trans Y.le).trans ad.le) aN),(b7.mono (((((((S.le.trans f).trans i.le).trans k.le).trans l).trans X).trans Y.le).trans ad.le) aO),(b7.mono (((((((S.le.trans f).trans i.le).trans k.le).trans l).trans X).trans Y.le).trans ad.le) aP),aQ,aR,(b7.mono ((((((f.trans i.le).trans k.le).trans l).trans X).trans Y.le).trans ad.le) aS),aT,aU,(b7.mono ((((((f.trans i.le).trans k.le).trans l).trans X).trans Y.le).trans ad.le) aV),bd,dr,dw⟩

theorem c7k {q0:u6}{q1:A5}{q2:q7}{q3:Int}{q4:E3}{r:(List E3)}(hS:SH w K [] w K [])(ax:b7 D9 K A a b q0.Stops)(ay:b7 L0 K B c d q0.Syns)(az:b7 F6 K C f i q1.Docs)(aA:b7 B8 K D k l q1.Entries)(aB:i7 q2.Kind)(aC:q2.Field.length≤maxLen)(aD:b7 D9 K G m n q2.Words)(aE:i7 q2.From)(aF:i7 q2.To)(aG:b7 F4 K H o p q2.Kids)(ak:i7 q3)(aH:i7 q4.Doc)(aI:i7 q4.Points)(hG33:a4i y6 1 q G8 w)(hD: ¬dr.D)(hm:k7 F q0 q1 q2 q3 q4=some r):
  Calls prog 53 #[.agg #[V3 A a b,V3 B c d],.agg #[V3 C f i,V3 D k l],.agg #[V6 q2.Kind,sv q2.Field,V3 G m n,V6 q2.From,V6 q2.To,V3 H o p],V6 q3,.agg #[V6 q4.Doc,V6 q4.Points]] w fun e w'=>∃a_1 n_2 c_3 K',e= .returned (V3 a_1 n_2 c_3)∧SH w K [] w' K' [tail (V3 a_1 n_2 c_3) 71 2]∧b7 Q0 K' a_1 n_2 c_3 r:=by
 rw [k7] at hm
 refine ci func53 rfl ntmps53 (sr (bx rfl hS fun aJ cf aK=>?_))
 have aL:SH _ _ _ _ _ [s7 aJ [V3 A a b,V3 B c d] 26]:=aK
 refine bx rfl aL fun aM cg aN=>?_
 have aO:SH _ _ _ _ _ [s7 aM [V3 C f i,V3 D k l] 30,_]:=aN
 refine bx rfl aO fun aP ch aQ=>?_
 have aR:SH _ _ _ _ _ [s7 aP [V6 q2.Kind,sv q2.Field,V3 G m n,V6 q2.From,V6 q2.To,V3 H o p] 35,_,_]:=aQ
 refine bx rfl aR fun ae cj aS=>?_
 have am:SH _ _ _ _ _ [s7 ae [V6 q4.Doc,V6 q4.Points] 71,_,_,_]:=aS
 refine lv (r_n rfl) (O7 (mv rfl ?_))
 obtain⟨ck,aT,aU⟩:=ob hm
 refine lk a5x (E2 F am.enter0 ak (by decide :i7 1) (by decide :i7 16) aT) ?_
 rintro cl cm ⟨cn,rfl,x⟩
 have an:=(am.c0 x).t4
 refine lv (A4 rfl) (nq (D5 aU rfl (fun aV af=>?_) (fun aV af=>?_)))
 ·refine sr (b0 Q0 underlying57 Q2 an fun aW cp aX cq aY aZ=>(av rfl (nq (rr ?_))))
  cases oi af
  exact ey results53 ⟨aW,0,0,aX,rfl,aZ.s,aY⟩
 refine j3 (qr (b0 Q0 underlying57 Q2 an fun ba cr cs O bb R=>(av rfl (O7 (lv (j6 (ds:=[V3 A a b,V3 B c d]) B9 rfl m4 R rfl rfl) (lv (j6 (ds:=[V3 C f i,V3 D k l]) C4 rfl m3 R rfl rfl) (lv (j6 (ds:=[V6 q2.Kind,sv q2.Field,V3 G m n,V6 q2.From,V6 q2.To,V3 H o p]) B1 rfl m2 R rfl rfl) ?_)))))))
 obtain⟨bc,bd,be⟩:=ob af
 refine lk c6D (a8v F R.enter0 (ax.mono (x.le.trans O)) (ay.mono (x.le.trans O)) (az.mono (x.le.trans O)) (aA.mono (x.le.trans O)) aB aC (aD.mono (x.le.trans O)) aE aF (aG.mono (x.le.trans O)) (hG33.keep R) hD bd) ?_
 rintro ct cu ⟨bf,bg,bh,ag,rfl,ao,V⟩
 have bi:=(R.c0 ao).t6
 refine lv (q9 underlying57 rfl V) (lv (r_m rfl) (nq ?_))
 obtain⟨bj,bk,bl⟩:=ob be
 refine l4 (fun E' w'=>∃W X Y aa,E'=[(3,V6 q3),(11,V3 W X Y)]∧SH w K [] w' aa [tail (V3 W X Y) 71 2]∧M0 ag aa∧b7 Q0 aa W X Y bj) ?_ ?_
 ·refine j7 ?_
  obtain⟨cv,bm,bn⟩:=ob bk
  have bo:=bi.f1.f2.sb (sk (sk (sd (sd (sd (sd sz))))))
  refine qF (fun (ap:Nat) (ah:(List E3)) E' w'=>∃y I J S,E'=[(3,V6 q3),(9,pt ae),(11,V3 y I J),(22,V3 bf bg bh),(23,V6 (bc.length:Int)),(24,V6 ((ap:Nat):Int))]∧SH w K [] w' S [s7 ae [V6 q4.Doc,V6 q4.Points] 71,tail (V3 y I J) 71 2]∧M0 ag S∧b7 Q0 S y I J ah) bm ⟨ba,0,0,ag,rfl,bo,kr,(bb.mono ao.le)⟩ ?_ ?_
  ·rintro ap ah _ bp cw hi113 bq ⟨y,I,J,S,rfl,ab,T,ac⟩
   refine sr (lv (u7 rfl rfl) (ns (C9 rfl (b8 (by omega)) (j3 (l5 (o4 (j7 (sr ?_))))))))
   obtain⟨s,br,bs⟩:=ob bq
   refine li underlying57 Q2 (V.mono T) br fun bu bv cx bz bA=>?_
   obtain⟨rfl,aq,ar⟩:=bz
   have bB:F1 _ bu bv [V6 s.Doc,V6 s.Points]:=bA
   refine lv (F3 Q2 rfl ab bB rfl) (al Q2 ab fun bC cy bD=>?_)
   have bE:SH _ _ _ _ _ [s7 bC [V6 0,V6 0] 71,_,_]:=bD
   refine lw [V6 s.Doc,V6 s.Points] Q2 bE fun cz ad=>(nr (lv (j6 (ds:=[V6 q4.Doc,V6 q4.Points]) Q2 rfl m1 ad rfl rfl) (lv (j6 (ds:=[V6 s.Doc,V6 s.Points]) Q2 rfl m0 ad rfl rfl) ?_)))
   obtain⟨cA,bF,bG⟩:=ob bs
   refine lk c5p (a4U F ad.enter0 aH aI aq ar bF) ?_
   rintro cB cC ⟨bH,rfl,U,cD⟩
   have ai:=(ad.c0 U).t3
   refine lv (u7 rfl rfl) (nq (D5 bG rfl (fun bI aj=>?_) (fun bI aj=>?_)))
   ·refine j5 (mv rfl (lv (j6 (ds:=[V6 s.Doc,V6 s.Points]) Q2 rfl m0 ai rfl rfl) (lb Q0 (.agg #[V6 s.Doc,V6 s.Points]) [V6 s.Doc,V6 s.Points] s underlying57 Q2 ⟨rfl,aq,ar⟩ ai fun cE cF cG au bJ bK=>?_)))
    obtain⟨cH,bL,bM⟩:=ob aj
    refine lp underlying57 Q2 (ac.mono (U.le.trans au)) bJ bL bK.f3 fun bN bO bP cI bQ bR bS bT=>(av rfl (nb (qg (lv (B6 rfl rfl (C6 hi113 (b7.max V))) (mv rfl (i8 ?_))))))
    cases oi bM
    exact qd ⟨bN,bO,bP,bQ,rfl,bT.f3.s,(((T.trans U.le).trans au).trans bR),bS⟩
   refine j3 (x8 (qg (lv (B6 rfl rfl (C6 hi113 (b7.max V))) (mv rfl (i8 ?_)))))
   cases oi aj
   exact qd ⟨y,I,J,bH,rfl,ai.s,(T.trans U.le),(ac.mono U.le)⟩
  rintro ah _ bp bU ⟨y,I,J,S,rfl,ab,T,ac⟩
  subst bU
  refine sr (lv (u7 rfl rfl) (ns (C8 rfl (c6 (by omega)) (y4 (g8 (g8 (l6 ?_)))))))
  cases oi bn
  exact qd ⟨y,I,J,S,rfl,ab.s,T,ac⟩
 rintro _ cJ ⟨W,X,Y,aa,rfl,aw,cK,bV⟩
 refine qr (mv rfl (mv rfl ?_))
 obtain⟨cL,bW,bX⟩:=ob bl
 refine lk c68 (b0H F aw.enter0 bV ak bW) ?_
 rintro cM cN ⟨bY,bZ,ca,cb,rfl,cc,cd⟩
 have ce:=(aw.c0 cc).t2
 refine av rfl (nq (j9 ?_))
 cases oi bX
 exact ey results53 ⟨bY,bZ,ca,cb,rfl,ce.s,cd⟩

theorem b1U {q0:u6}{q1:A5}{q2:q7}{q3:Int}{q4:E3}{r:(List E3)}(hS:SH w K [] w K [])(aF:b7 D9 K A a b q0.Stops)(aG:b7 L0 K B c d q0.Syns)(ab:b7 F6 K C f i q1.Docs)(aH:b7 B8 K D k l q1.Entries)(aI:i7 q2.Kind)(aJ:q2.Field.length≤maxLen)(aK:b7 D9 K G m n q2.Words)(aL:i7 q2.From)(aM:i7 q2.To)(aN:b7 F4 K H o p q2.Kids)(aZ:i7 q3)(bm:i7 q4.Doc)(bn:i7 q4.Points)(hm:k6 F q0 q1 q2 q3 q4=some r):
  Calls prog 54 #[.agg #[V3 A a b,V3 B c d],.agg #[V3 C f i,V3 D k l],.agg #[V6 q2.Kind,sv q2.Field,V3 G m n,V6 q2.From,V6 q2.To,V3 H o p],V6 q3,.agg #[V6 q4.Doc,V6 q4.Points]] w fun e w'=>∃a_1 n_2 c_3 K',e= .returned (V3 a_1 n_2 c_3)∧SH w K [] w' K' []∧b7 Q0 K' a_1 n_2 c_3 r:=by
 rw [k6] at hm
 refine ci func54 rfl ntmps54 (sr (bx rfl hS fun I de bo=>?_))
 have bp:SH _ _ _ _ _ [s7 I [V3 A a b,V3 B c d] 26]:=bo
 refine bx rfl bp fun J df bq=>?_
 have br:SH _ _ _ _ _ [s7 J [V3 C f i,V3 D k l] 30,_]:=bq
 refine bx rfl br fun O dg bs=>?_
 have bu:SH _ _ _ _ _ [s7 O [V6 q2.Kind,sv q2.Field,V3 G m n,V6 q2.From,V6 q2.To,V3 H o p] 35,_,_]:=bs
 refine bx rfl bu fun R dh bv=>?_
 have bz:SH _ _ _ _ _ [s7 R [V6 q4.Doc,V6 q4.Points] 71,_,_,_]:=bv
 refine lv (r_n rfl) (nr (b0 Q0 underlying57 Q2 bz fun aO di bA q bB ar=>(av rfl (ns (o4 ?_)))))
 obtain⟨bC,bD,bE⟩:=ob hm
 refine l4 (IV w K [] bA [(3,V6 q3),(5,pt I),(6,pt J),(7,pt O),(9,pt R),(11,V3 aO 0 0),(28,.bool bC)] [s7 I [V3 A a b,V3 B c d] 26,s7 J [V3 C f i,V3 D k l] 30,s7 O [V6 q2.Kind,sv q2.Field,V3 G m n,V6 q2.From,V6 q2.To,V3 H o p] 35,s7 R [V6 q4.Doc,V6 q4.Points] 71,tail (V3 aO 0 0) 71 2]) ?_ ?_
 ·refine j5 (lv (j6 (ds:=[V3 A a b,V3 B c d]) B9 rfl m4 ar rfl rfl) (lv (j6 (ds:=[V3 C f i,V3 D k l]) C4 rfl m3 ar rfl rfl) ?_))
  obtain⟨dj,bF,bG⟩:=ob bD
  refine lk c2R (a5K F ar.enter0 (aF.mono q) (aG.mono q) (ab.mono q) (aH.mono q) bF) ?_
  rintro dk dl ⟨bH,rfl,ac⟩
  have au:=(ar.c0 ac).t5
  refine lv (A4 rfl) (mv rfl (bt bG (fun S aP=>?_) (fun S aP=>?_)))
  ·refine lu S (lu S (lu S (lv (J6 rfl S rfl) (mv rfl (lu rfl (lu rfl (lu rfl (lv (J6 rfl rfl rfl) (i8 ?_)))))))))
   cases oi aP
   exact qd ⟨bH,rfl,au.f1.f2.f3.f4,ac.le⟩
  refine lg S (j6 (ds:=[V6 q2.Kind,sv q2.Field,V3 G m n,V6 q2.From,V6 q2.To,V3 H o p]) B1 rfl m2 au rfl rfl) ?_
  obtain⟨dm,bI,bJ⟩:=ob aP
  refine A3 (wg rfl rfl S) rfl (A2 (vs:=[.agg #[V6 q2.Kind,sv q2.Field,V3 G m n,V6 q2.From,V6 q2.To,V3 H o p]]) c4x rfl) (a6E F au.enter0 aI aJ (aK.mono (q.trans ac.le)) aL aM (aN.mono (q.trans ac.le)) bI) ?_
  rintro dn dp ⟨bK,rfl,aQ⟩
  refine⟨_,rfl,?_⟩
  have aR:=(au.c0 aQ).t5
  refine lg S (A4 rfl) (lv (l9 rfl S rfl) (mv rfl (bt bJ (fun T aS=>?_) (fun T aS=>?_))))
  ·refine lu T (lu T (lu T (lv (J6 rfl T rfl) (i8 ?_))))
   cases oi aS
   exact qd ⟨bK,rfl,aR.f1.f2.f3.f4,(ac.le.trans aQ.le)⟩
  refine lg T (i5 rfl) ?_
  obtain⟨dq,bL,bM⟩:=ob aS
  refine A3 (wg rfl rfl T) rfl (A2 (vs:=[V6 q3,V6 1,V6 16]) a7T rfl) (I9 F aR.enter0 aZ (by decide :i7 1) (by decide :i7 16) bL) ?_
  rintro dr dt ⟨bN,rfl,ba⟩
  refine⟨_,rfl,?_⟩
  have bO:=(aR.c0 ba).t5
  refine lg T (A4 rfl) (lv (l9 rfl T rfl) (i8 ?_))
  cases oi bM
  exact qd ⟨bN,rfl,bO.f1.f2.f3.f4,((ac.le.trans aQ.le).trans ba.le)⟩
 rintro _ du ⟨aw,rfl,bb,x⟩
 refine l5 (D5 bE rfl (fun bP aT=>?_) (fun bP aT=>?_))
 ·refine sr (lv (r_n rfl) (nq (rr ?_)))
  cases oi aT
  exact ey results54 ⟨none,0,0,aw,rfl,bb.s,(b7.nil _ _)⟩
 refine j3 (qs (sr (lv (N2 rfl) (nq ?_))))
 obtain⟨bQ,bR,bS⟩:=ob aT
 refine l4 (fun E' w'=>∃ax ay az ag,E'=[(11,V3 ax ay az)]∧SH w K [] w' ag []∧M0 aw ag∧b7 Q0 ag ax ay az bQ) ?_ ?_
 ·refine j7 ?_
  obtain⟨dv,bT,bU⟩:=ob bR
  have bV:=bb.sb (sk (sk (sk (sk (sd sz)))))
  refine qw (fun (ad:(List E3)×Int) E' w'=>∃V W X Y,E'=[(3,V6 q3),(5,pt I),(6,pt J),(7,pt O),(9,pt R),(11,V3 V W X),(12,V6 ad.2)]∧SH w K [] w' Y [s7 I [V3 A a b,V3 B c d] 26,s7 J [V3 C f i,V3 D k l] 30,s7 O [V6 q2.Kind,sv q2.Field,V3 G m n,V6 q2.From,V6 q2.To,V3 H o p] 35,s7 R [V6 q4.Doc,V6 q4.Points] 71]∧M0 aw Y∧b7 Q0 Y V W X ad.1∧i7 ad.2) bT ⟨aO,0,0,aw,rfl,bV,kr,(bB.mono x),I5⟩ ?_
  rintro ad _ dw dx bW bX ⟨V,W,X,Y,rfl,aU,s,aV,dy⟩
  refine o4 (sr (mv rfl (fl L3 rfl a1b m1 aU rfl (lv (q9 underlying27 rfl (ab.mono ((q.trans x).trans s))) (lv (u7 rfl rfl) (nq (D5 bW rfl (fun bY aW=>?_) (fun bY aW=>?_))))))))
  ·refine j3 (qs (j7 (o4 ?_)))
   obtain⟨y,bZ,ca⟩:=ob aW
   refine l4 (fun E' w'=>∃ah ai,E'=[(3,V6 q3),(5,pt I),(6,pt J),(7,pt O),(9,pt R),(11,V3 V W X),(12,V6 ad.2),(13,pt ah)]∧SH w K [] w' ai [s7 ah [V6 y.Doc,V6 y.Points] 71,s7 I [V3 A a b,V3 B c d] 26,s7 J [V3 C f i,V3 D k l] 30,s7 O [V6 q2.Kind,sv q2.Field,V3 G m n,V6 q2.From,V6 q2.To,V3 H o p] 35,s7 R [V6 q4.Doc,V6 q4.Points] 71]∧M0 Y ai∧i7 y.Doc∧i7 y.Points) ?_ ?_
   ·obtain⟨aj,cb,cc⟩:=ob bZ
    obtain⟨cd,ce,cf⟩:=ob cc
    obtain⟨aA,bc,bd⟩:=ob cf
    have aa:=aU.drew
    refine j_0 (fun w'=>H0 Y w'∧B0 J [V3 C f i,V3 D k l] w'∧B0 I [V3 A a b,V3 B c d] w'∧B0 O [V6 q2.Kind,sv q2.Field,V3 G m n,V6 q2.From,V6 q2.To,V3 H o p] w') 19 [] mixed ⟨aa.hasK kr,aa.hasObj m1,aa.hasObj m0,aa.hasObj m2⟩ (jv 0 rfl (c7 L3 rfl) (jh 1 rfl (fun _ h=>B5 a1b rfl rfl h.2.1) (jv 2 rfl (i5 rfl) (ji 3 rfl underlying27 E8 (ab.mono ((q.trans x).trans s)) cb fun cg ch dz cj ck=>?_))))
    obtain⟨cl,cm,cn,cp,cq,cr,rfl,be,dA,dB⟩:=cj
    have ct:F1 _ cg ch [V6 aj.Id,V3 cl cm cn,V3 cp cq cr]:=ck
    refine jv 4 rfl (c7 P6 rfl) (jh 5 rfl (fun _ h=>a0Y E6 rfl (ct 0 _ rfl) h.1) (jh 6 rfl (fun _ h=>A0 (ds:=[V3 A a b,V3 B c d]) B9 rfl rfl rfl h.2.2.1) (jh 7 rfl (fun _ h=>A0 (ds:=[V3 C f i,V3 D k l]) C4 rfl rfl rfl h.2.1) (jh 8 rfl (fun _ h=>A0 (ds:=[V6 q2.Kind,sv q2.Field,V3 G m n,V6 q2.From,V6 q2.To,V3 H o p]) B1 rfl rfl rfl h.2.2.2) (jv 9 rfl (c7 L3 rfl) (jh 10 rfl (fun _ h=>B5 a1b rfl rfl h.2.1) (jv 11 rfl (i5 rfl) (ji 12 rfl underlying27 E8 (ab.mono ((q.trans x).trans s)) ce fun cu cv dC cw cx=>?_))))))))
    obtain⟨cy,cz,cA,cB,cC,cD,rfl,bf,dD,dE⟩:=cw
    have cE:F1 _ cu cv [V6 cd.Id,V3 cy cz cA,V3 cB cC cD]:=cx
    refine jv 13 rfl (c7 P6 rfl) (jh 14 rfl (fun _ h=>a0Y E6 rfl (cE 0 _ rfl) h.1) (j2 15 17 rfl rfl ?_ ?_))
    ·refine lk b78 (a1A F aa.enter0 (aF.mono ((q.trans x).trans s)) (aG.mono ((q.trans x).trans s)) (ab.mono ((q.trans x).trans s)) (aH.mono ((q.trans x).trans s)) aI aJ (aK.mono ((q.trans x).trans s)) aL aM (aN.mono ((q.trans x).trans s)) bf bc) ?_
     rintro dF dG ⟨cF,rfl,ak,cG⟩
     have am:=(aa.c0 ak).t4
     refine P0 ⟨am.hasK ak.le,am.hasObj m1,am.hasObj m0,am.hasObj m2⟩ (jv 16 rfl (C3 (cs:=#[V6 aj.Id,V6 aA]) c3D Q2 rfl (by kernel_rfl)) (j1 17 rfl (al Q2 am fun bg dH cH=>?_)))
     have an:SH _ _ _ _ _ [s7 bg [V6 0,V6 0] 71,_,_,_,_]:=cH
     refine P0 ⟨an.hasK ak.le,an.hasObj m2,an.hasObj m1,an.hasObj m3⟩ (j1 18 rfl (lw [V6 aj.Id,V6 aA] Q2 an fun dI ao=>(P0 ⟨ao.hasK ak.le,ao.hasObj m2,ao.hasObj m1,ao.hasObj m3⟩ (jd ?_))))
     cases oi bd
     exact qd ⟨bg,cF,rfl,ao,ak.le,be,cG⟩
    refine al Q2 aa fun bh dJ cI=>?_
    have ae:SH _ _ _ _ _ [s7 bh [V6 0,V6 0] 71,_,_,_,_]:=cI
    refine P0 ⟨ae.hasK kr,ae.hasObj m2,ae.hasObj m1,ae.hasObj m3⟩ (j1 15 rfl (lk b78 (a1A F ae.enter0 (aF.mono ((q.trans x).trans s)) (aG.mono ((q.trans x).trans s)) (ab.mono ((q.trans x).trans s)) (aH.mono ((q.trans x).trans s)) aI aJ (aK.mono ((q.trans x).trans s)) aL aM (aN.mono ((q.trans x).trans s)) bf bc) ?_))
    rintro dK dL ⟨cJ,rfl,aB,cK⟩
    have ap:=(ae.c0 aB).t5
    refine P0 ⟨ap.hasK aB.le,ap.hasObj m2,ap.hasObj m1,ap.hasObj m3⟩ (jv 16 rfl (C3 (cs:=#[V6 aj.Id,V6 aA]) c3D Q2 rfl (by kernel_rfl)) (j1 18 rfl (lw [V6 aj.Id,V6 aA] Q2 ap fun dM aq=>(P0 ⟨aq.hasK aB.le,aq.hasObj m2,aq.hasObj m1,aq.hasObj m3⟩ (jd ?_)))))
    cases oi bd
    exact qd ⟨bh,cJ,rfl,aq,aB.le,be,cK⟩
   rintro _ dN ⟨ah,ai,rfl,af,aC,bi,bj⟩
   refine qs ?_
   obtain⟨cL,cM,cN⟩:=ob ca
   refine l4 (IV w K [] ai [(3,V6 q3),(5,pt I),(6,pt J),(7,pt O),(9,pt R),(11,V3 V W X),(12,V6 ad.2),(13,pt ah),(60,.bool cL)] [s7 ah [V6 y.Doc,V6 y.Points] 71,s7 I [V3 A a b,V3 B c d] 26,s7 J [V3 C f i,V3 D k l] 30,s7 O [V6 q2.Kind,sv q2.Field,V3 G m n,V6 q2.From,V6 q2.To,V3 H o p] 35,s7 R [V6 q4.Doc,V6 q4.Points] 71]) ?_ ?_
   ·refine j5 (fl a4O rfl E6 m0 af rfl (lv (E7 rfl rfl) (mv rfl (bt cM (fun U aX=>?_) (fun U aX=>?_)))))
    ·refine lg U (j6 (ds:=[V6 q4.Doc,V6 q4.Points]) Q2 rfl m4 af rfl rfl) (lg U (j6 (ds:=[V6 y.Doc,V6 y.Points]) Q2 rfl m0 af rfl rfl) ?_)
     obtain⟨dO,cO,cP⟩:=ob aX
     refine A3 (wg rfl rfl U) rfl (A2 (vs:=[.agg #[V6 q4.Doc,V6 q4.Points],.agg #[V6 y.Doc,V6 y.Points]]) c5q rfl) (b2I F af.enter0 bm bn bi bj cO) ?_
     rintro dP dQ ⟨cQ,rfl,bk⟩
     refine⟨_,rfl,?_⟩
     have cR:=(af.c0 bk).t5
     refine lv (n9 rfl U rfl) (i8 ?_)
     cases oi cP
     exact qd ⟨cQ,rfl,cR,bk.le⟩
    refine lu U (lu U (lu U (lv (L8 rfl U rfl) (i8 ?_))))
    cases oi aX
    exact qd ⟨ai,rfl,af,kr⟩
   rintro _ dR ⟨cS,rfl,aD,aE⟩
   refine l5 (D5 cN rfl (fun cT aY=>?_) (fun cT aY=>?_))
   ·refine j5 (mv rfl (lv (j6 (ds:=[V6 y.Doc,V6 y.Points]) Q2 rfl m0 aD rfl rfl) (mv rfl ?_)))
    obtain⟨dS,cU,cV⟩:=ob aY
    refine lk c5r (b2J F aD.enter0 (aV.mono (aC.trans aE)) bi bj aZ cU) ?_
    rintro dT dU ⟨cW,cX,cY,cZ,rfl,bl,da⟩
    have db:=(aD.c0 bl).t5
    refine av rfl (nb (l5 (j5 (mv rfl (lv (y7 rfl rfl) (av rfl (i8 ?_)))))))
    cases oi cV
    exact qd ⟨_,rfl,cW,cX,cY,cZ,rfl,db.s,(((s.trans aC).trans aE).trans bl.le),da,(u0 _)⟩
   refine j3 (x8 (l5 (j5 (mv rfl (lv (y7 rfl rfl) (av rfl (i8 ?_)))))))
   cases oi aY
   exact qd ⟨_,rfl,V,W,X,cS,rfl,aD.s,((s.trans aC).trans aE),(aV.mono (aC.trans aE)),(u0 _)⟩
  refine y4 (g8 (g8 ?_))
  cases oi aW
  cases bX _ rfl
  refine l6 ?_
  cases oi bU
  exact qd ⟨V,W,X,Y,rfl,aU.s,s,aV⟩
 rintro _ dV ⟨ax,ay,az,ag,rfl,dc,dW,dd⟩
 refine qr (mv rfl (av rfl (nq (j9 ?_))))
 cases oi bS
 exact ey results54 ⟨ax,ay,az,ag,rfl,dc,dd⟩

theorem c3j {q0:List UInt8}{r:Bool}(hS:SH w K [] w K [])(bd:b7 W8 K A a b q0)(hG6:a4i y6 1 c G8 w)(hD: ¬dr.D)(hm:k8 F q0=some r):
  Calls prog 14 #[V3 A a b] w (R_b w K r):=by
 rw [k8] at hm
 refine ci func14 rfl ntmps14 (sr (lv (O6 rfl) (O7 (mv rfl (lv (q9 underlying22 rfl bd) (lv (E7 rfl rfl) (nq (R9 rfl (fun aM=>?_) (fun aM=>?_)))))))))
 ·have h8:=a1a aM hm
  refine sr (lv (r_t rfl) (nq (rr ?_)))
  cases oi h8
  exact ey results14 ⟨K,rfl,hS⟩
 have h8:=a09 aM hm
 refine j3 (qr (mv rfl ?_))
 obtain⟨d,bs,bu⟩:=ob h8
 refine lk e0b (b5E F hS.enter0 bd bs) ?_
 rintro du dv ⟨q,s,x,y,B,C,D,G,H,I,J,O,ac,ad,ae,af,ag,ah,dw,rfl,bv,ak,am,an,ao,au,aw,ax,ay,az,aA,aO,aB,aC⟩
 have bx:=(hS.c0 bv).t5
 refine mv rfl (lv (y3 rfl rfl) (lv (y3 rfl rfl) (lv (y3 rfl rfl) (lv (y3 rfl rfl) (lv (y3 rfl rfl) (al B9 bx fun aP dx bz=>?_))))))
 have bA:SH _ _ _ _ _ [s7 aP [V3 none 0 0,V3 none 0 0] 26,_,_,_,_,_]:=bz
 refine al C4 bA fun aQ dy bB=>?_
 have bC:SH _ _ _ _ _ [s7 aQ [V3 none 0 0,V3 none 0 0] 30,_,_,_,_,_,_]:=bB
 refine al B1 bC fun aR dz bD=>?_
 have bE:SH _ _ _ _ _ [s7 aR [V6 0,sv [],V3 none 0 0,V6 0,V6 0,V3 none 0 0] 35,_,_,_,_,_,_,_]:=bD
 refine al Q2 bE fun W dA bF=>?_
 have bG:SH _ _ _ _ _ [s7 W [V6 0,V6 0] 71,_,_,_,_,_,_,_,_]:=bF
 refine lw [V3 q s x,V3 y B C] B9 bG.f3 fun dB bH=>(lw [V3 D G H,V3 I J O] C4 bH.f3 fun dC bI=>(lw [V6 d.2.2.1.Kind,sv d.2.2.1.Field,V3 ac ad ae,V6 d.2.2.1.From,V6 d.2.2.1.To,V3 af ag ah] B1 bI.f3 fun dD bJ=>(av rfl (lw [V6 d.2.2.2.2.Doc,V6 d.2.2.2.2.Points] Q2 bJ.f3 fun dE X=>(nr (lv (j6 (ds:=[V3 q s x,V3 y B C]) B9 rfl m3 X rfl rfl) (lv (j6 (ds:=[V3 D G H,V3 I J O]) C4 rfl m2 X rfl rfl) (lv (j6 (ds:=[V6 d.2.2.1.Kind,sv d.2.2.1.Field,V3 ac ad ae,V6 d.2.2.1.From,V6 d.2.2.1.To,V3 af ag ah]) B1 rfl m1 X rfl rfl) (mv rfl ?_)))))))))
 refine lv (j6 (ds:=[V6 d.2.2.2.2.Doc,V6 d.2.2.2.2.Points]) Q2 rfl m0 X rfl rfl) ?_
 obtain⟨dF,bK,bL⟩:=ob bu
 refine lk e0c (c7k F X.enter0 ak am an ao au aw ax ay az aA aO aB aC (hG6.keep X) hD bK) ?_
 rintro dG dH ⟨aD,aE,aF,bM,rfl,f,aS⟩
 have ai:=(X.c0 f).t10
 refine av rfl (ns (o4 ?_))
 obtain⟨bN,bO,bP⟩:=ob bL
 refine l4 (IV w K [] bM [(3,pt aP),(4,pt aQ),(5,pt aR),(6,V6 d.2.2.2.1),(7,pt W),(8,V3 aD aE aF),(47,.bool bN)] [s7 aP [V3 q s x,V3 y B C] 26,s7 aQ [V3 D G H,V3 I J O] 30,s7 aR [V6 d.2.2.1.Kind,sv d.2.2.1.Field,V3 ac ad ae,V6 d.2.2.1.From,V6 d.2.2.1.To,V3 af ag ah] 35,s7 W [V6 d.2.2.2.2.Doc,V6 d.2.2.2.2.Points] 71]) ?_ ?_
 ·refine j5 (mv rfl (lv (j6 (ds:=[V3 q s x,V3 y B C]) B9 rfl m4 ai rfl rfl) (lv (j6 (ds:=[V3 D G H,V3 I J O]) C4 rfl m3 ai rfl rfl) (lv (j6 (ds:=[V6 d.2.2.1.Kind,sv d.2.2.1.Field,V3 ac ad ae,V6 d.2.2.1.From,V6 d.2.2.1.To,V3 af ag ah]) B1 rfl m2 ai rfl rfl) (mv rfl (lv (j6 (ds:=[V6 d.2.2.2.2.Doc,V6 d.2.2.2.2.Points]) Q2 rfl m1 ai rfl rfl) ?_))))))
  obtain⟨dI,bQ,bR⟩:=ob bO
  refine lk c97 (b1U F ai.enter0 (ak.mono f.le) (am.mono f.le) (an.mono f.le) (ao.mono f.le) au aw (ax.mono f.le) ay az (aA.mono f.le) aO aB aC bQ) ?_
  rintro dJ dK ⟨dL,dM,dN,dO,rfl,o,bS⟩
  have be:=(ai.c0 o).t10
  obtain⟨dP,bT,bU⟩:=ob bR
  refine lk b4A (R1 F be.enter0 (aS.mono o.le) bS bT) ?_
  rintro dQ dR ⟨bV,rfl,R⟩
  have ap:=(be.c0 R).t10
  refine lv (A4 rfl) (mv rfl (bt bU (fun l aT=>?_) (fun l aT=>?_)))
  ·refine lu l (lu l (lu l (lu l (lv (J6 rfl l rfl) (mv rfl (lu rfl (lu rfl (lv (J6 rfl rfl rfl) (i8 ?_)))))))))
   cases oi aT
   exact qd ⟨bV,rfl,ap.f1.f2.f3.f4.s,(o.le.trans R.le)⟩
  refine lg l (j6 (ds:=[V3 q s x,V3 y B C]) B9 rfl m4 ap rfl rfl) (lg l (j6 (ds:=[V3 D G H,V3 I J O]) C4 rfl m3 ap rfl rfl) ?_)
  obtain⟨dS,bW,bX⟩:=ob aT
  refine A3 (wg rfl rfl l) rfl (A2 (vs:=[.agg #[V3 q s x,V3 y B C],.agg #[V3 D G H,V3 I J O]]) a9k rfl) (J1 F ap.enter0 (ak.mono ((f.le.trans o.le).trans R.le)) (am.mono ((f.le.trans o.le).trans R.le)) (an.mono ((f.le.trans o.le).trans R.le)) (ao.mono ((f.le.trans o.le).trans R.le)) bW) ?_
  rintro dT dU ⟨bf,rfl,aU⟩
  refine⟨_,rfl,?_⟩
  have bg:=(ap.c0 aU).t10
  refine lg l (A4 rfl) (lv (l9 rfl l rfl) (mv rfl (bt bX (fun Y aV=>?_) (fun Y aV=>?_))))
  ·refine lu Y (lu Y (lv (J6 rfl Y rfl) (i8 ?_)))
   cases oi aV
   exact qd ⟨bf,rfl,bg.f1.f2.f3.f4.s,((o.le.trans R.le).trans aU.le)⟩
  refine lg Y (i5 rfl) (lg Y (u7 rfl rfl) (lv (l9 rfl Y rfl) (i8 ?_)))
  cases oi aV
  exact qd ⟨bf,rfl,bg.f1.f2.f3.f4.s,((o.le.trans R.le).trans aU.le)⟩
 rintro _ dV ⟨dW,rfl,k,i⟩
 refine l5 (D5 bP rfl (fun bY aW=>?_) (fun bY aW=>?_))
 ·refine sr (mv rfl (lv (j6 (ds:=[V3 q s x,V3 y B C]) B9 rfl m0 k rfl rfl) (lv (j6 (ds:=[V3 D G H,V3 I J O]) C4 rfl m1 k rfl rfl) (lv (j6 (ds:=[V6 d.2.2.1.Kind,sv d.2.2.1.Field,V3 ac ad ae,V6 d.2.2.1.From,V6 d.2.2.1.To,V3 af ag ah]) B1 rfl m2 k rfl rfl) (mv rfl (lv (j6 (ds:=[V6 d.2.2.2.2.Doc,V6 d.2.2.2.2.Points]) Q2 rfl m3 k rfl rfl) ?_))))))
  obtain⟨dX,bZ,ca⟩:=ob aW
  refine lk c97 (b1U F k.enter0 (ak.mono (f.le.trans i)) (am.mono (f.le.trans i)) (an.mono (f.le.trans i)) (ao.mono (f.le.trans i)) au aw (ax.mono (f.le.trans i)) ay az (aA.mono (f.le.trans i)) aO aB aC bZ) ?_
  rintro dY dZ ⟨ea,eb,ec,ed,rfl,bh,cb⟩
  have bi:=(k.c0 bh).t4
  obtain⟨ee,cc,cd⟩:=ob ca
  refine lk b4A (R1 F bi.enter0 (aS.mono (i.trans bh.le)) cb cc) ?_
  rintro ef eg ⟨ce,rfl,cf⟩
  have cg:=(bi.c0 cf).t4
  refine av rfl (nq (rr ?_))
  cases oi cd
  exact ey results14 ⟨ce,rfl,cg.s⟩
 refine j3 (qr (lv (j6 (ds:=[V3 q s x,V3 y B C]) B9 rfl m0 k rfl rfl) (lv (j6 (ds:=[V3 D G H,V3 I J O]) C4 rfl m1 k rfl rfl) (lv (j6 (ds:=[V6 d.2.2.1.Kind,sv d.2.2.1.Field,V3 ac ad ae,V6 d.2.2.1.From,V6 d.2.2.1.To,V3 af ag ah]) B1 rfl m2 k rfl rfl) ?_))))
 obtain⟨eh,ch,cj⟩:=ob aW
 refine lk b6y (a0b F k.enter0 (ak.mono (f.le.trans i)) (am.mono (f.le.trans i)) (an.mono (f.le.trans i)) (ao.mono (f.le.trans i)) au aw (ax.mono (f.le.trans i)) ay az (aA.mono (f.le.trans i)) (by decide :i7 16) (hG6.keep k) hD ch) ?_
 rintro ei ej ⟨bj,bk,bl,ek,rfl,bm,aX⟩
 have ck:=(k.c0 bm).t5
 refine av rfl (nr (b0 Q0 underlying57 Q2 ck fun cl el aY aG cm cn=>(av rfl (O7 (lv (N2 rfl) (nq ?_))))))
 obtain⟨cp,cq,cr⟩:=ob cj
 refine l4 (fun E' w'=>∃aH aI aJ aK,E'=[(8,V3 aD aE aF),(10,V3 aH aI aJ)]∧SH w K [] w' aK [tail (V3 aH aI aJ) 71 2]∧M0 aY aK∧b7 Q0 aK aH aI aJ cp) ?_ ?_
 ·refine j7 ?_
  obtain⟨em,cs,ct⟩:=ob cq
  have cu:=cn.f5.sb (sk (sk (sd (sd (sd (sd sz))))))
  refine qw (fun (aq:(List E3)×Int) E' w'=>∃S T U aa,E'=[(6,V6 d.2.2.2.1),(7,pt W),(8,V3 aD aE aF),(9,V3 bj bk bl),(10,V3 S T U),(11,V6 aq.2)]∧SH w K [] w' aa [s7 W [V6 d.2.2.2.2.Doc,V6 d.2.2.2.2.Points] 71,tail (V3 S T U) 71 2]∧M0 aY aa∧b7 Q0 aa S T U aq.1∧i7 aq.2) cs ⟨cl,0,0,aY,rfl,cu,kr,cm,I5⟩ ?_
  rintro aq _ en eo cv cw ⟨S,T,U,aa,rfl,bn,aj,aL,ep⟩
  refine o4 (o4 ?_)
  obtain⟨cx,cy,cz⟩:=ob cv
  refine l4 (IV w K [] aa [(6,V6 d.2.2.2.1),(7,pt W),(8,V3 aD aE aF),(9,V3 bj bk bl),(10,V3 S T U),(11,V6 aq.2),(70,.bool cx)] [s7 W [V6 d.2.2.2.2.Doc,V6 d.2.2.2.2.Points] 71,tail (V3 S T U) 71 2]) ?_ ?_
  ·refine j5 (mv rfl (mv rfl (lv (q9 underlying57 rfl (aX.mono (aG.trans aj))) (lv (u7 rfl rfl) (mv rfl (bt cy (fun m aZ=>?_) (fun m aZ=>?_)))))))
   ·refine lg m (i5 rfl) (lg m (q9 underlying57 rfl aL) (lg m (i5 rfl) (lg m (u7 rfl rfl) (lv (n9 rfl m rfl) (i8 ?_)))))
    cases oi aZ
    exact qd ⟨aa,rfl,bn,kr⟩
   refine lu m (lu m (lu m (lu m (lv (L8 rfl m rfl) (i8 ?_)))))
   cases oi aZ
   exact qd ⟨aa,rfl,bn,kr⟩
  rintro _ eq ⟨cA,rfl,bo,V⟩
  refine l5 (D5 cz rfl (fun cB ba=>?_) (fun cB ba=>?_))
  ·refine j3 (qs (j7 (o4 (D4 mixed (by kernel_rfl) bo (kh (D8 (ds:=[V6 d.2.2.2.2.Doc,V6 d.2.2.2.2.Points]) Q2 rfl m0 rfl rfl) (km rfl (km rfl ?_)))))))
   obtain⟨bp,cC,cD⟩:=ob ba
   refine ki underlying57 Q2 (aX.mono ((aG.trans aj).trans V)) cC fun cE cF es cG cH=>?_
   obtain⟨rfl,cI,cJ⟩:=cG
   have cK:F1 _ cE cF [V6 bp.Doc,V6 bp.Points]:=cH
   refine kh (a1C Q2 rfl cK rfl) ?_
   obtain⟨et,cL,cM⟩:=ob cD
   refine kc c61 (fun _ _ cN eu=>(b2C F) cN.enter0 aB aC cI cJ cL) (B4 ?_)
   rintro ev ⟨cO,bb,ar⟩
   refine l5 (D5 cM rfl (fun cP bc=>?_) (fun cP bc=>?_))
   ·refine j5 (mv rfl (mv rfl (mv rfl ?_)))
    obtain⟨ab,cQ,cR⟩:=ob bc
    refine li underlying57 Q2 (b7.mono (((aG.trans aj).trans V).trans ar) aX) cQ fun cS cT ew cU cV=>?_
    obtain⟨rfl,cW,cX⟩:=cU
    have cY:F1 _ cS cT [V6 ab.Doc,V6 ab.Points]:=cV
    refine lv (F3 Q2 rfl bb cY rfl) (lb Q0 (.agg #[V6 ab.Doc,V6 ab.Points]) [V6 ab.Doc,V6 ab.Points] ab underlying57 Q2 ⟨rfl,cW,cX⟩ bb fun ex eA eB bq cZ da=>?_)
    obtain⟨eC,db,dc⟩:=ob cR
    refine lp underlying57 Q2 (aL.mono ((V.trans ar).trans bq)) cZ db da.f2 fun dd de df eD dg dh di dj=>(av rfl (nb (l5 (j5 (mv rfl (lv (y7 rfl rfl) (av rfl (i8 ?_))))))))
    cases oi dc
    exact qd ⟨_,rfl,dd,de,df,dg,rfl,dj.f2.s,((((aj.trans V).trans ar).trans bq).trans dh),di,(u0 _)⟩
   refine j3 (x8 (l5 (j5 (mv rfl (lv (y7 rfl rfl) (av rfl (i8 ?_)))))))
   cases oi bc
   exact qd ⟨_,rfl,S,T,U,cO,rfl,bb,((aj.trans V).trans ar),(aL.mono (V.trans ar)),(u0 _)⟩
  refine y4 (g8 (g8 ?_))
  cases oi ba
  cases cw _ rfl
  refine l6 ?_
  cases oi ct
  exact qd ⟨S,T,U,cA,rfl,bo.s,(aj.trans V),(aL.mono V)⟩
 rintro _ eE ⟨aH,aI,aJ,aK,rfl,br,dk,dl⟩
 refine qr (mv rfl (mv rfl ?_))
 obtain⟨eF,dm,dn⟩:=ob cr
 refine lk b4A (R1 F br.enter0 (b7.mono (((i.trans bm.le).trans aG).trans dk) aS) dl dm) ?_
 rintro eG eH ⟨dp,rfl,dq⟩
 have dt:=(br.c0 dq).t1
 refine av rfl (nq (j9 ?_))
 cases oi dn
 exact ey results14 ⟨dp,rfl,dt.s⟩
end Go.Proofs.YtnloenhmkdpgeaaGreatDoor
