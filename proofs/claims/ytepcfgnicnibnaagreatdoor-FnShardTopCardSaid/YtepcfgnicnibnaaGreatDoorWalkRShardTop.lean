/-
 Walks of the functions. Printed by gen.py.
-/
import Derived.Test.YtepcfgnicnibnaaGreatDoorModelLShardTop
import Derived.Test.YtepcfgnicnibnaaGreatDoorWalkA0
import Derived.Test.YtepcfgnicnibnaaGreatDoorWalkA1
import Derived.Test.YtepcfgnicnibnaaGreatDoorWalkA2
import Derived.Test.YtepcfgnicnibnaaGreatDoorWalkA3
import Derived.Test.YtepcfgnicnibnaaGreatDoorWalkA4
import Derived.Test.YtepcfgnicnibnaaGreatDoorWalkA5
import Derived.Test.YtepcfgnicnibnaaGreatDoorWalkA6
import Derived.Test.YtepcfgnicnibnaaGreatDoorWalkFT
set_option linter.unusedVariables false
set_option linter.unusedSectionVars false
set_option maxRecDepth 100000
namespace Go.Proofs.YtepcfgnicnibnaaGreatDoor
set_option maxHeartbeats 4000000
open Go Go.Fk Go.RowKit Tryz
variable (F:Nat){w:World}{K:F0}{Z:List Nat}{g1 g2 g3:Nat}{A B C D G H I J O R S T:Option Addr}{a b c d f i k l m n o p q s v x y aa ab ac ad ae af ag:Nat}
variable [dr:Dr]

theorem a7R {q0:List UInt8}{r:u5×A7×r5×Int×Int×Int}(hS:SH w K [] w K [])(bg:b7 tU8 K A a b q0)(hm:V0 F q0=some r):
  Calls prog 16 #[V3 A a b] w fun e w'=>∃a_1 n_2 c_3 a_5 n_6 c_7 a_9 n_10 c_11 a_13 n_14 c_15 a_19 n_20 c_21 a_25 n_26 c_27 K',e= .returned (.tuple #[.agg #[V3 a_1 n_2 c_3,V3 a_5 n_6 c_7],.agg #[V3 a_9 n_10 c_11,V3 a_13 n_14 c_15],.agg #[V6 r.2.2.1.Kind,sv r.2.2.1.Field,V3 a_19 n_20 c_21,V6 r.2.2.1.From,V6 r.2.2.1.To,V3 a_25 n_26 c_27],V6 r.2.2.2.1,V6 r.2.2.2.2.1,V6 r.2.2.2.2.2])∧SH w K [] w' K' [tail (V3 a_1 n_2 c_3) 9 1,tail (V3 a_5 n_6 c_7) 165 2,tail (V3 a_13 n_14 c_15) 104 3,tail (V3 a_19 n_20 c_21) 9 1,tail (V3 a_25 n_26 c_27) 33 6]∧b7 D8 K' a_1 n_2 c_3 r.1.Stops∧b7 L0 K' a_5 n_6 c_7 r.1.Syns∧b7 F8 K' a_9 n_10 c_11 r.2.1.Docs∧b7 B8 K' a_13 n_14 c_15 r.2.1.Entries∧i7 r.2.2.1.Kind∧r.2.2.1.Field.length≤maxLen∧b7 D8 K' a_19 n_20 c_21 r.2.2.1.Words∧i7 r.2.2.1.From∧i7 r.2.2.1.To∧b7 F3 K' a_25 n_26 c_27 r.2.2.1.Kids∧i7 r.2.2.2.1∧i7 r.2.2.2.2.1∧i7 r.2.2.2.2.2:=by
 rw [V0] at hm
 refine ci func16 rfl ntmps16 (sr (al E2 hS fun g5 w6 bi=>?_))
 have bj:SH _ _ _ _ _ [u9 g5 [V3 none 0 0,V3 none 0 0] 26]:=bi
 refine al F2 bj fun g9 cK bl=>?_
 have bm:SH _ _ _ _ _ [u9 g9 [V3 none 0 0,V3 none 0 0] 30,_]:=bl
 refine al C6 bm fun bn cL bo=>?_
 have aR:SH _ _ _ _ _ [u9 bn [V6 0,sv [],V3 none 0 0,V6 0,V6 0,V3 none 0 0] 33,_,_]:=bo
 refine lv (N4 rfl) (lv (N4 rfl) (lv (N4 rfl) (nr (mv rfl ?_))))
 obtain⟨cM,bp,bq⟩:=ob hm
 refine lk c4K (a4N F aR.enter0 bg bp) ?_
 rintro cN cO ⟨cP,cQ,cR,cS,cT,rfl,br,bs,bu⟩
 have aS:=(aR.c0 br).t4
 refine av rfl (nr (mv rfl ?_))
 obtain⟨cU,bv,bx⟩:=ob bq
 refine lk c4L (a3P F aS.e1 bs bu bv) ?_
 rintro cV cW ⟨y,B,C,D,G,H,I,J,O,R,S,T,cX,cY,cZ,da,rfl,bz,aE,aF,aG,aH,bA,bB⟩
 have bC:=(aS.c1 bz).t7
 refine mv rfl (lv (B2 rfl rfl) (lv (B2 rfl rfl) (al E2 bC fun aT db bD=>?_)))
 have bE:SH _ _ _ _ _ [u9 aT [V3 none 0 0,V3 none 0 0] 26,_,_,_,_,_,_,_]:=bD
 refine al F2 bE fun aU dc bF=>?_
 have bG:SH _ _ _ _ _ [u9 aU [V3 none 0 0,V3 none 0 0] 30,_,_,_,_,_,_,_,_]:=bF
 refine lw [V3 y B C,V3 D G H] E2 bG.f1 fun dd bH=>(lw [V3 I J O,V3 R S T] F2 bH.f1 fun de bI=>(nr (mv rfl ?_)))
 obtain⟨d,bJ,bK⟩:=ob bx
 have aV:=bI.f5
 refine lk b32 (a2A F aV.e1 bA bB (by decide :i7 3) bJ) ?_
 rintro df dg ⟨U,V,W,X,Y,aa,dh,di,dj,dk,rfl,m,aI,aJ,aK,aL,aM,aN,bL,bM⟩
 have bN:=(aV.c1 m).t11
 refine al C6 bN fun aW dl bO=>?_
 have bP:SH _ _ _ _ _ [u9 aW [V6 0,sv [],V3 none 0 0,V6 0,V6 0,V3 none 0 0] 33,_,_,_,_,_,_,_,_,_,_,_]:=bO
 refine lw [V6 d.1.Kind,sv d.1.Field,V3 U V W,V6 d.1.From,V6 d.1.To,V3 X Y aa] C6 bP fun dm bQ=>(nr (mv rfl ?_))
 obtain⟨dn,bR,bS⟩:=ob bK
 have aX:=bQ.f3
 refine lk a2F (y8 F aX.e1 bL bM (by decide :i7 4) bR) ?_
 rintro dp dq ⟨dr,dt,du,bT,rfl,i,dv,aY,aZ⟩
 have bU:=(aX.c1 i).t12
 refine lv (y4 rfl rfl) (av rfl (ns ?_))
 obtain⟨dw,ba,bV⟩:=ob bS
 obtain⟨dx,aO,bW⟩:=ob bV
 obtain⟨dy,aP,aQ⟩:=ob bW
 have ai:=bU.drew
 refine j_0 (fun w'=>G8 bT w'∧A9 aT [V3 y B C,V3 D G H] w'∧A9 aU [V3 I J O,V3 R S T] w'∧A9 aW [V6 d.1.Kind,sv d.1.Field,V3 U V W,V6 d.1.From,V6 d.1.To,V3 X Y aa] w') 20 [] mixed ⟨ai.hasK kr,ai.hasObj m5,ai.hasObj m4,ai.hasObj m1⟩ (jh 0 rfl (fun _ h=>B4 (ds:=[V3 y B C,V3 D G H]) E2 rfl rfl rfl h.2.1) (jh 1 rfl (fun _ h=>B4 (ds:=[V3 I J O,V3 R S T]) F2 rfl rfl rfl h.2.2.1) (jh 2 rfl (fun _ h=>B4 (ds:=[V6 d.1.Kind,sv d.1.Field,V3 U V W,V6 d.1.From,V6 d.1.To,V3 X Y aa]) C6 rfl rfl rfl h.2.2.2) (jv 3 rfl (i5 rfl) (jv 4 rfl (i5 rfl) (jv 5 rfl (i5 rfl) (jv 6 rfl (y4 rfl rfl) (jv 8 rfl (i5 rfl) (jv 11 rfl (i5 rfl) ?_)))))))))
 refine j2 7 12 rfl rfl ?_ ?_
 ·refine lk a2F (y8 F ai.e1 aY aZ (s6 _) ba) ?_
  rintro dz dA ⟨dB,dC,dD,dE,rfl,f,dF,bb,bc⟩
  have aj:=(ai.c1 f).t12
  refine R7 ⟨aj.hasK f.le,aj.hasObj m5,aj.hasObj m4,aj.hasObj m1⟩ (j2 9 12 rfl rfl ?_ ?_)
  ·refine lk a2F (y8 F aj.e1 bb bc (by decide :i7 2) aO) ?_
   rintro dG dH ⟨dI,dJ,dK,dL,rfl,o,dM,bX,bY⟩
   have ao:=(aj.c1 o).t12
   refine R7 ⟨ao.hasK (f.le.trans o.le),ao.hasObj m5,ao.hasObj m4,ao.hasObj m1⟩ (jv 10 rfl (H2 rfl rfl) (j1 12 rfl (H0 (t:=C9) (n:=4) (pv:=[(0,V6 1),(1,V6 2),(2,V6 16),(3,V6 0)]) (cs:=[V6 1,V6 2,V6 16,V6 0]) (xs:=[(1:Int),(2:Int),(16:Int),(0:Int)]) wn rfl underlying51 E4 rfl rfl rfl (by kernel_rfl) rfl rfl (E7 (u:=V6 1) (z:=(1:Int)) ⟨rfl,(by decide :i7 1)⟩ (E7 (u:=V6 2) (z:=(2:Int)) ⟨rfl,(by decide :i7 2)⟩ (E7 (u:=V6 16) (z:=(16:Int)) ⟨rfl,(by decide :i7 16)⟩ (E7 (u:=V6 0) (z:=(0:Int)) ⟨rfl,M1⟩ a0o)))) ao fun dN dO dP ab bZ ap=>(R7 ⟨ap.hasK ((f.le.trans o.le).trans ab),ap.hasObj m6,ap.hasObj m5,ap.hasObj m2⟩ (j1 13 rfl ?_)))))
   have bd:=ap.f1
   refine lk b9Z (U2 F bd.e1 (bX.mono ab) bY bZ aP) ?_
   rintro dQ dR ⟨dS,dT,dU,ca,rfl,ac,cb,dV,dW⟩
   have aq:SH _ _ _ _ _ [_,_,_,_,_,_,_,_,_,_,_,_,_]:=SH.call (Lin:=[_]) bd ac
   refine R7 ⟨aq.hasK (((f.le.trans o.le).trans ab).trans ac.le),aq.hasObj m6,aq.hasObj m5,aq.hasObj m2⟩ (j1 14 rfl ?_)
   have cc:SH _ _ _ _ _ [_,_,_,_,_,_,_,_,_,_,_,_,_]:=SH.front (p:=[_,_,_,_,_,_,_,_,_,_,_,_]) aq
   refine lw [V3 y B C,V3 D G H] E2 cc fun dX ar=>(R7 ⟨ar.hasK (((f.le.trans o.le).trans ab).trans ac.le),ar.hasObj m7,ar.hasObj m6,ar.hasObj m3⟩ (j1 15 rfl ?_))
   have cd:SH _ _ _ _ _ [_,_,_,_,_,_,_,_,_,_,_,_,_]:=SH.front (p:=[_,_,_,_,_,_,_,_,_,_,_,_]) ar
   refine lw [V3 I J O,V3 R S T] F2 cd fun dY au=>(R7 ⟨au.hasK (((f.le.trans o.le).trans ab).trans ac.le),au.hasObj m8,au.hasObj m7,au.hasObj m4⟩ (j1 16 rfl ?_))
   have ce:SH _ _ _ _ _ [_,_,_,_,_,_,_,_,_,_,_,_,_]:=SH.front (p:=[_,_,_,_,_,_,_,_,_,_,_,_]) au
   refine lw [V6 d.1.Kind,sv d.1.Field,V3 U V W,V6 d.1.From,V6 d.1.To,V3 X Y aa] C6 ce fun dZ af=>(R7 ⟨af.hasK (((f.le.trans o.le).trans ab).trans ac.le),af.hasObj m9,af.hasObj m8,af.hasObj m5⟩ (jv 17 rfl (x8 rfl) (jv 18 rfl (x8 rfl) (jv 19 rfl (x8 rfl) (jd (l4 (l3 ?_)))))))
   cases oi aQ
   have cf:SH _ _ _ _ _ [_,_,_,_,_,_,_,_,_,_,_,_,_]:=SH.front (p:=[_,_,_,_,_,_,_,_,_,_,_,_]) af.f7.f7
   have cg:SH _ _ _ _ _ [_,_,_,_,_,_,_,_,_,_,_,_,_]:=SH.front (p:=[_,_,_,_,_,_,_,_,_,_,_,_]) cf
   have ch:SH _ _ _ _ _ [_,_,_,_,_,_,_,_,_,_,_,_,_]:=SH.front (p:=[_,_,_,_,_,_,_,_,_,_,_,_]) cg
   exact R6 (vs:=[_,_,_,_,_,_]) results16 ⟨⟨_,_,rfl,A5 E2 (cs:=[V3 y B C,V3 D G H]) (fun j c e=>by rw [Nat.zero_add,af.mem_obj m2];exact e) (.inl ⟨rfl,rfl,rfl⟩)⟩,⟨_,_,rfl,A5 F2 (cs:=[V3 I J O,V3 R S T]) (fun j c e=>by rw [Nat.zero_add,af.mem_obj m1];exact e) (.inl ⟨rfl,rfl,rfl⟩)⟩,⟨_,_,rfl,A5 C6 (cs:=[V6 d.1.Kind,sv d.1.Field,V3 U V W,V6 d.1.From,V6 d.1.To,V3 X Y aa]) (fun j c e=>by rw [Nat.zero_add,af.mem_obj m0];exact e) (.inl ⟨rfl,rfl,rfl⟩)⟩,rfl,rfl,rfl,trivial⟩ ⟨y,B,C,D,G,H,I,J,O,R,S,T,U,V,W,X,Y,aa,ca,rfl,ch.s,(b7.mono (((((m.le.trans i.le).trans f.le).trans o.le).trans ab).trans ac.le) aE),(b7.mono (((((m.le.trans i.le).trans f.le).trans o.le).trans ab).trans ac.le) aF),(b7.mono (((((m.le.trans i.le).trans f.le).trans o.le).trans ab).trans ac.le) aG),(b7.mono (((((m.le.trans i.le).trans f.le).trans o.le).trans ab).trans ac.le) aH),aI,aJ,(b7.mono ((((i.le.trans f.le).trans o.le).trans ab).trans ac.le) aK),aL,aM,(b7.mono ((((i.le.trans f.le).trans o.le).trans ab).trans ac.le) aN),(s6 _),(s6 _),cb⟩
  refine H0 (t:=C9) (n:=4) (pv:=[(0,V6 1),(1,V6 2),(2,V6 16),(3,V6 0)]) (cs:=[V6 1,V6 2,V6 16,V6 0]) (xs:=[(1:Int),(2:Int),(16:Int),(0:Int)]) wn rfl underlying51 E4 rfl rfl rfl (by kernel_rfl) rfl rfl (E7 (u:=V6 1) (z:=(1:Int)) ⟨rfl,(by decide :i7 1)⟩ (E7 (u:=V6 2) (z:=(2:Int)) ⟨rfl,(by decide :i7 2)⟩ (E7 (u:=V6 16) (z:=(16:Int)) ⟨rfl,(by decide :i7 16)⟩ (E7 (u:=V6 0) (z:=(0:Int)) ⟨rfl,M1⟩ a0o)))) aj fun ea eb ec q cj aw=>(R7 ⟨aw.hasK (f.le.trans q),aw.hasObj m6,aw.hasObj m5,aw.hasObj m2⟩ (j1 9 rfl ?_))
  have be:=aw.f1
  refine lk a2F (y8 F be.e1 (bb.mono q) bc (by decide :i7 2) aO) ?_
  rintro ed ee ⟨ef,eg,eh,ei,rfl,s,ej,ck,cl⟩
  have ak:SH _ _ _ _ _ [_,_,_,_,_,_,_,_,_,_,_,_,_]:=SH.call (Lin:=[_]) be s
  refine R7 ⟨ak.hasK ((f.le.trans q).trans s.le),ak.hasObj m6,ak.hasObj m5,ak.hasObj m2⟩ (jv 10 rfl (H2 rfl rfl) (j1 13 rfl (lk b9Z (U2 F ak.e1 ck cl (cj.mono s.le) aP) ?_)))
  rintro ek el ⟨em,en,eo,cm,rfl,ad,cn,ep,eq⟩
  have ax:SH _ _ _ _ _ [_,_,_,_,_,_,_,_,_,_,_,_,_]:=SH.call (Lin:=[_]) ak ad
  refine R7 ⟨ax.hasK (((f.le.trans q).trans s.le).trans ad.le),ax.hasObj m6,ax.hasObj m5,ax.hasObj m2⟩ (j1 14 rfl ?_)
  have cp:SH _ _ _ _ _ [_,_,_,_,_,_,_,_,_,_,_,_,_]:=SH.front (p:=[_,_,_,_,_,_,_,_,_,_,_,_]) ax
  refine lw [V3 y B C,V3 D G H] E2 cp fun es ay=>(R7 ⟨ay.hasK (((f.le.trans q).trans s.le).trans ad.le),ay.hasObj m7,ay.hasObj m6,ay.hasObj m3⟩ (j1 15 rfl ?_))
  have cq:SH _ _ _ _ _ [_,_,_,_,_,_,_,_,_,_,_,_,_]:=SH.front (p:=[_,_,_,_,_,_,_,_,_,_,_,_]) ay
  refine lw [V3 I J O,V3 R S T] F2 cq fun et az=>(R7 ⟨az.hasK (((f.le.trans q).trans s.le).trans ad.le),az.hasObj m8,az.hasObj m7,az.hasObj m4⟩ (j1 16 rfl ?_))
  have cr:SH _ _ _ _ _ [_,_,_,_,_,_,_,_,_,_,_,_,_]:=SH.front (p:=[_,_,_,_,_,_,_,_,_,_,_,_]) az
  refine lw [V6 d.1.Kind,sv d.1.Field,V3 U V W,V6 d.1.From,V6 d.1.To,V3 X Y aa] C6 cr fun eu ag=>(R7 ⟨ag.hasK (((f.le.trans q).trans s.le).trans ad.le),ag.hasObj m9,ag.hasObj m8,ag.hasObj m5⟩ (jv 17 rfl (x8 rfl) (jv 18 rfl (x8 rfl) (jv 19 rfl (x8 rfl) (jd (l4 (l3 ?_)))))))
  cases oi aQ
  have ct:SH _ _ _ _ _ [_,_,_,_,_,_,_,_,_,_,_,_,_]:=SH.front (p:=[_,_,_,_,_,_,_,_,_,_,_,_]) ag.f7.f7
  have cu:SH _ _ _ _ _ [_,_,_,_,_,_,_,_,_,_,_,_,_]:=SH.front (p:=[_,_,_,_,_,_,_,_,_,_,_,_]) ct
  have cv:SH _ _ _ _ _ [_,_,_,_,_,_,_,_,_,_,_,_,_]:=SH.front (p:=[_,_,_,_,_,_,_,_,_,_,_,_]) cu
  exact R6 (vs:=[_,_,_,_,_,_]) results16 ⟨⟨_,_,rfl,A5 E2 (cs:=[V3 y B C,V3 D G H]) (fun j c e=>by rw [Nat.zero_add,ag.mem_obj m2];exact e) (.inl ⟨rfl,rfl,rfl⟩)⟩,⟨_,_,rfl,A5 F2 (cs:=[V3 I J O,V3 R S T]) (fun j c e=>by rw [Nat.zero_add,ag.mem_obj m1];exact e) (.inl ⟨rfl,rfl,rfl⟩)⟩,⟨_,_,rfl,A5 C6 (cs:=[V6 d.1.Kind,sv d.1.Field,V3 U V W,V6 d.1.From,V6 d.1.To,V3 X Y aa]) (fun j c e=>by rw [Nat.zero_add,ag.mem_obj m0];exact e) (.inl ⟨rfl,rfl,rfl⟩)⟩,rfl,rfl,rfl,trivial⟩ ⟨y,B,C,D,G,H,I,J,O,R,S,T,U,V,W,X,Y,aa,cm,rfl,cv.s,(b7.mono (((((m.le.trans i.le).trans f.le).trans q).trans s.le).trans ad.le) aE),(b7.mono (((((m.le.trans i.le).trans f.le).trans q).trans s.le).trans ad.le) aF),(b7.mono (((((m.le.trans i.le).trans f.le).trans q).trans s.le).trans ad.le) aG),(b7.mono (((((m.le.trans i.le).trans f.le).trans q).trans s.le).trans ad.le) aH),aI,aJ,(b7.mono ((((i.le.trans f.le).trans q).trans s.le).trans ad.le) aK),aL,aM,(b7.mono ((((i.le.trans f.le).trans q).trans s.le).trans ad.le) aN),(s6 _),(s6 _),cn⟩
 refine H0 (t:=C9) (n:=4) (pv:=[(0,V6 1),(1,V6 2),(2,V6 16),(3,V6 0)]) (cs:=[V6 1,V6 2,V6 16,V6 0]) (xs:=[(1:Int),(2:Int),(16:Int),(0:Int)]) wn rfl underlying51 E4 rfl rfl rfl (by kernel_rfl) rfl rfl (E7 (u:=V6 1) (z:=(1:Int)) ⟨rfl,(by decide :i7 1)⟩ (E7 (u:=V6 2) (z:=(2:Int)) ⟨rfl,(by decide :i7 2)⟩ (E7 (u:=V6 16) (z:=(16:Int)) ⟨rfl,(by decide :i7 16)⟩ (E7 (u:=V6 0) (z:=(0:Int)) ⟨rfl,M1⟩ a0o)))) ai fun ev ew ex k cw aA=>(R7 ⟨aA.hasK k,aA.hasObj m6,aA.hasObj m5,aA.hasObj m2⟩ (j1 7 rfl ?_))
 have bf:=aA.f1
 refine lk a2F (y8 F bf.e1 (aY.mono k) aZ (s6 _) ba) ?_
 rintro eA eB ⟨eC,eD,eE,eF,rfl,l,eG,cx,cy⟩
 have am:SH _ _ _ _ _ [_,_,_,_,_,_,_,_,_,_,_,_,_]:=SH.call (Lin:=[_]) bf l
 refine R7 ⟨am.hasK (k.trans l.le),am.hasObj m6,am.hasObj m5,am.hasObj m2⟩ (j1 9 rfl (lk a2F (y8 F am.e1 cx cy (by decide :i7 2) aO) ?_))
 rintro eH eI ⟨eJ,eK,eL,eM,rfl,x,eN,cz,cA⟩
 have an:SH _ _ _ _ _ [_,_,_,_,_,_,_,_,_,_,_,_,_]:=SH.call (Lin:=[_]) am x
 refine R7 ⟨an.hasK ((k.trans l.le).trans x.le),an.hasObj m6,an.hasObj m5,an.hasObj m2⟩ (jv 10 rfl (H2 rfl rfl) (j1 13 rfl (lk b9Z (U2 F an.e1 cz cA (cw.mono (l.le.trans x.le)) aP) ?_)))
 rintro eO eP ⟨eQ,eR,eS,cB,rfl,ae,cC,eT,eU⟩
 have aB:SH _ _ _ _ _ [_,_,_,_,_,_,_,_,_,_,_,_,_]:=SH.call (Lin:=[_]) an ae
 refine R7 ⟨aB.hasK (((k.trans l.le).trans x.le).trans ae.le),aB.hasObj m6,aB.hasObj m5,aB.hasObj m2⟩ (j1 14 rfl ?_)
 have cD:SH _ _ _ _ _ [_,_,_,_,_,_,_,_,_,_,_,_,_]:=SH.front (p:=[_,_,_,_,_,_,_,_,_,_,_,_]) aB
 refine lw [V3 y B C,V3 D G H] E2 cD fun eV aC=>(R7 ⟨aC.hasK (((k.trans l.le).trans x.le).trans ae.le),aC.hasObj m7,aC.hasObj m6,aC.hasObj m3⟩ (j1 15 rfl ?_))
 have cE:SH _ _ _ _ _ [_,_,_,_,_,_,_,_,_,_,_,_,_]:=SH.front (p:=[_,_,_,_,_,_,_,_,_,_,_,_]) aC
 refine lw [V3 I J O,V3 R S T] F2 cE fun eW aD=>(R7 ⟨aD.hasK (((k.trans l.le).trans x.le).trans ae.le),aD.hasObj m8,aD.hasObj m7,aD.hasObj m4⟩ (j1 16 rfl ?_))
 have cF:SH _ _ _ _ _ [_,_,_,_,_,_,_,_,_,_,_,_,_]:=SH.front (p:=[_,_,_,_,_,_,_,_,_,_,_,_]) aD
 refine lw [V6 d.1.Kind,sv d.1.Field,V3 U V W,V6 d.1.From,V6 d.1.To,V3 X Y aa] C6 cF fun eX ah=>(R7 ⟨ah.hasK (((k.trans l.le).trans x.le).trans ae.le),ah.hasObj m9,ah.hasObj m8,ah.hasObj m5⟩ (jv 17 rfl (x8 rfl) (jv 18 rfl (x8 rfl) (jv 19 rfl (x8 rfl) (jd (l4 (l3 ?_)))))))
 cases oi aQ
 have cG:SH _ _ _ _ _ [_,_,_,_,_,_,_,_,_,_,_,_,_]:=SH.front (p:=[_,_,_,_,_,_,_,_,_,_,_,_]) ah.f7.f7
 have cH:SH _ _ _ _ _ [_,_,_,_,_,_,_,_,_,_,_,_,_]:=SH.front (p:=[_,_,_,_,_,_,_,_,_,_,_,_]) cG
 have cI:SH _ _ _ _ _ [_,_,_,_,_,_,_,_,_,_,_,_,_]:=SH.front (p:=[_,_,_,_,_,_,_,_,_,_,_,_]) cH
 exact R6 (vs:=[_,_,_,_,_,_]) results16 ⟨⟨_,_,rfl,A5 E2 (cs:=[V3 y B C,V3 D G H]) (fun j c e=>by rw [Nat.zero_add,ah.mem_obj m2];exact e) (.inl ⟨rfl,rfl,rfl⟩)⟩,⟨_,_,rfl,A5 F2 (cs:=[V3 I J O,V3 R S T]) (fun j c e=>by rw [Nat.zero_add,ah.mem_obj m1];exact e) (.inl ⟨rfl,rfl,rfl⟩)⟩,⟨_,_,rfl,A5 C6 (cs:=[V6 d.1.Kind,sv d.1.Field,V3 U V W,V6 d.1.From,V6 d.1.To,V3 X Y aa]) (fun j c e=>by rw [Nat.zero_add,ah.mem_obj m0];exact e) (.inl ⟨rfl,rfl,rfl⟩)⟩,rfl,rfl,rfl,trivial⟩ ⟨y,B,C,D,G,H,I,J,O,R,S,T,U,V,W,X,Y,aa,cB,rfl,cI.s,(b7.mono (((((m.le.trans i.le).trans k).trans l.le).trans x.le).trans ae.le) aE),(b7.mono (((((m.le.trans i.le).trans k).trans l.le).trans x.le).trans ae.le) aF),(b7.mono (((((m.le.trans i.le).trans k).trans l.le).trans x.le).trans ae.le) aG),(b7.mono (((((m.le.trans i.le).trans k).trans l.le).trans x.le).trans ae.le) aH),aI,aJ,(b7.mono ((((i.le.trans k).trans l.le).trans x.le).trans ae.le) aK),aL,aM,(b7.mono ((((i.le.trans k).trans l.le).trans x.le).trans ae.le) aN),(s6 _),(s6 _),cC⟩

theorem b12 {q0:Int}{q1:Int}{r:Bool}(hS:SH w K [] w K [])(d:i7 q0)(f:i7 q1)(hm:a3D F q0 q1=some r):
  Calls prog 59 #[V6 q0,V6 q1] w (R_b w K r):=by
 rw [a3D] at hm
 refine ci func59 rfl ntmps59 (sr (lv (P2 rfl) (nr (mv rfl ?_))))
 obtain⟨A,i,k⟩:=ob hm
 refine lk a3H (C3 F hS.enter0 d (by decide :i7 1) (by decide :i7 4) i) ?_
 rintro B C ⟨l,rfl,m⟩
 have b:=(hS.c0 m).t0
 refine mv rfl (bt k (fun a c=>?_) (fun a c=>?_))
 ·refine lg a (i5 rfl) (lg a (i5 rfl) (lg a (H2 rfl rfl) ?_))
  obtain⟨D,o,q⟩:=ob c
  refine A0 (wg rfl rfl a) rfl (z7 (vs:=[V6 q1,V6 0,V6 (A1 (q0-(1:Int)))]) a3H rfl) (C3 F b.enter0 f M1 (s6 _) o) ?_
  rintro G H ⟨s,rfl,x⟩
  refine⟨_,rfl,?_⟩
  have y:=(b.c0 x).t0
  refine lv (o0 rfl a rfl) (av rfl (nq (l3 ?_)))
  cases oi q
  exact ey results59 ⟨s,rfl,y⟩
 refine lu a (lu a (lu a (lu a (lv (J6 rfl a rfl) (av rfl (nq (l3 ?_)))))))
 cases oi c
 exact ey results59 ⟨l,rfl,b⟩

theorem b0I {q0:u5}{q1:A7}{q2:r5}{q3:Int}{q4:Int}{q5:Int}{r:(List B0)}(hS:SH w K [] w K [])(aA:b7 D8 K A a b q0.Stops)(aB:b7 L0 K B c d q0.Syns)(aC:b7 F8 K C f i q1.Docs)(aD:b7 B8 K D k l q1.Entries)(aE:i7 q2.Kind)(aF:q2.Field.length≤maxLen)(aG:b7 D8 K G m n q2.Words)(aH:i7 q2.From)(aI:i7 q2.To)(aJ:b7 F3 K H o p q2.Kids)(aK:i7 q3)(aL:i7 q4)(ap:i7 q5)(hG33:a5U C5 0 q L3 w)(hD: ¬dr.D)(hm:a1l F q0 q1 q2 q3 q4 q5=some r):
  Calls prog 17 #[.agg #[V3 A a b,V3 B c d],.agg #[V3 C f i,V3 D k l],.agg #[V6 q2.Kind,sv q2.Field,V3 G m n,V6 q2.From,V6 q2.To,V3 H o p],V6 q3,V6 q4,V6 q5] w fun e w'=>∃a_1 n_2 c_3 K',e= .returned (V3 a_1 n_2 c_3)∧SH w K [] w' K' [tail (V3 a_1 n_2 c_3) 45 2]∧b7 E8 K' a_1 n_2 c_3 r:=by
 rw [a1l] at hm
 refine ci func17 rfl ntmps17 (sr (bx rfl hS fun ae cn aM=>?_))
 have aN:SH _ _ _ _ _ [u9 ae [V3 A a b,V3 B c d] 26]:=aM
 refine bx rfl aN fun af cp aO=>?_
 have aP:SH _ _ _ _ _ [u9 af [V3 C f i,V3 D k l] 30,_]:=aO
 refine bx rfl aP fun ag cq aQ=>?_
 have aq:SH _ _ _ _ _ [u9 ag [V6 q2.Kind,sv q2.Field,V3 G m n,V6 q2.From,V6 q2.To,V3 H o p] 33,_,_]:=aQ
 refine lv (r_n rfl) (ns (p9 ?_))
 obtain⟨aR,aS,aT⟩:=ob hm
 refine l6 (IV w K [] K [(3,V6 q3),(4,V6 q4),(5,V6 q5),(6,pt ae),(7,pt af),(8,pt ag),(24,.bool aR)] [u9 ae [V3 A a b,V3 B c d] 26,u9 af [V3 C f i,V3 D k l] 30,u9 ag [V6 q2.Kind,sv q2.Field,V3 G m n,V6 q2.From,V6 q2.To,V3 H o p] 33]) ?_ ?_
 ·refine j3 (mv rfl (mv rfl ?_))
  obtain⟨cr,aU,aV⟩:=ob aS
  refine lk c7k (b12 F aq.enter0 aK aL aU) ?_
  rintro cs ct ⟨aW,rfl,ah⟩
  have ai:=(aq.c0 ah).t3
  refine lv (A4 rfl) (mv rfl (bt aV (fun x aj=>?_) (fun x aj=>?_)))
  ·refine lu x (lu x (lu x (lv (L8 rfl x rfl) (i8 ?_))))
   cases oi aj
   exact qd ⟨aW,rfl,ai.f1.f2,ah.le⟩
  refine lg x (i5 rfl) ?_
  obtain⟨cu,aX,aY⟩:=ob aj
  refine A0 (wg rfl rfl x) rfl (z7 (vs:=[V6 q5,V6 1,V6 16]) a3H rfl) (C3 F ai.enter0 ap (by decide :i7 1) (by decide :i7 16) aX) ?_
  rintro cv cw ⟨aZ,rfl,ar⟩
  refine⟨_,rfl,?_⟩
  have ba:=(ai.c0 ar).t3
  refine lg x (A4 rfl) (lv (o4 rfl x rfl) (i8 ?_))
  cases oi aY
  exact qd ⟨aZ,rfl,ba.f1.f2,(ah.le.trans ar.le)⟩
 rintro _ cx ⟨cy,rfl,au,R⟩
 refine l4 (D4 aT rfl (fun bb ak=>?_) (fun bb ak=>?_))
 ·refine sr (b0 E8 underlying39 M6 au fun bc cz bd cA be bf=>(av rfl (nq (rr ?_))))
  cases oi ak
  exact ey results17 ⟨bc,0,0,bd,rfl,bf.s,be⟩
 refine j5 (qr (b0 E8 underlying39 M6 au fun bg cB cC S bh T=>(av rfl (P6 (lv (n8 (ds:=[V3 A a b,V3 B c d]) E2 rfl m1 T rfl rfl) (lv (n8 (ds:=[V3 C f i,V3 D k l]) F2 rfl m2 T rfl rfl) (lv (n8 (ds:=[V6 q2.Kind,sv q2.Field,V3 G m n,V6 q2.From,V6 q2.To,V3 H o p]) C6 rfl m3 T rfl rfl) ?_)))))))
 obtain⟨bi,bj,bk⟩:=ob ak
 refine lk c1G (a2k F T.enter0 (aA.mono (R.trans S)) (aB.mono (R.trans S)) (aC.mono (R.trans S)) (aD.mono (R.trans S)) aE aF (aG.mono (R.trans S)) aH aI (aJ.mono (R.trans S)) (hG33.keep T) hD bj) ?_
 rintro cD cE ⟨bl,bm,bn,am,rfl,aw,V⟩
 have bo:=(T.c0 aw).t5
 refine lv (q7 underlying39 rfl V) (lv (r_m rfl) (nq ?_))
 obtain⟨bp,bq,br⟩:=ob bk
 refine l6 (fun E' w'=>∃W X Y aa,E'=[(5,V6 q5),(13,V3 W X Y)]∧SH w K [] w' aa [tail (V3 W X Y) 45 2]∧I9 am aa∧b7 E8 aa W X Y bp) ?_ ?_
 ·refine j7 ?_
  obtain⟨cF,bs,bu⟩:=ob bq
  have bv:=bo.sb (sd (sk (sd (sd (sd sz)))))
  refine qF (fun (ax:Nat) (an:(List B0)) E' w'=>∃y I J O,E'=[(3,V6 q3),(4,V6 q4),(5,V6 q5),(13,V3 y I J),(30,V3 bl bm bn),(31,V6 (bi.length:Int)),(32,V6 ((ax:Nat):Int))]∧SH w K [] w' O [tail (V3 y I J) 45 2]∧I9 am O∧b7 E8 O y I J an) bs ⟨bg,0,0,am,rfl,bv,kr,(bh.mono aw.le)⟩ ?_ ?_
  ·rintro ax an _ bz cG hi128 bA ⟨y,I,J,O,rfl,ab,U,ac⟩
   refine sr (lv (s7 rfl rfl) (ns (C2 rfl (b8 (by omega)) (j5 (l4 (p9 (j7 (sr ?_))))))))
   obtain⟨s,bB,bC⟩:=ob bA
   refine li underlying39 M6 (V.mono U) bB fun bD bE cH bF bG=>?_
   obtain⟨rfl,bH,bI⟩:=bF
   have bJ:E9 _ bD bE [V6 s.Doc,V6 s.Points]:=bG
   refine lv (F5 M6 rfl ab bJ rfl) (al M6 ab fun bK cI bL=>?_)
   have bM:SH _ _ _ _ _ [u9 bK [V6 0,V6 0] 45,_]:=bL
   refine lw [V6 s.Doc,V6 s.Points] M6 bM fun cJ ad=>(nr (fl a86 rfl E4 m0 ad rfl (mv rfl ?_)))
   obtain⟨cK,bN,bO⟩:=ob bC
   refine lv (a6U rfl rfl bN) (mv rfl (lv (A6 rfl rfl) (nq (D4 bO rfl (fun bP ao=>?_) (fun bP ao=>?_)))))
   ·refine j3 (mv rfl (lv (n8 (ds:=[V6 s.Doc,V6 s.Points]) M6 rfl m0 ad rfl rfl) (lb E8 (.agg #[V6 s.Doc,V6 s.Points]) [V6 s.Doc,V6 s.Points] s underlying39 M6 ⟨rfl,bH,bI⟩ ad fun cL cM cN ay bQ bR=>?_)))
    obtain⟨cO,bS,bT⟩:=ob ao
    refine lp underlying39 M6 (ac.mono ay) bQ bS bR.f2 fun bU bV bW cP bX bY bZ ca=>(av rfl (nb (qg (lv (A3 rfl rfl (B5 hi128 (b7.max V))) (mv rfl (i8 ?_))))))
    cases oi bT
    exact qd ⟨bU,bV,bW,bX,rfl,ca.s,((U.trans ay).trans bY),bZ⟩
   refine j5 (x9 (qg (lv (A3 rfl rfl (B5 hi128 (b7.max V))) (mv rfl (i8 ?_)))))
   cases oi ao
   exact qd ⟨y,I,J,O,rfl,ad.s,U,ac⟩
  rintro an _ bz cb ⟨y,I,J,O,rfl,ab,U,ac⟩
  subst cb
  refine sr (lv (s7 rfl rfl) (ns (C1 rfl (c6 (by omega)) (w8 (g6 (g6 (l5 ?_)))))))
  cases oi bu
  exact qd ⟨y,I,J,O,rfl,ab,U,ac⟩
 rintro _ cQ ⟨W,X,Y,aa,rfl,az,cR,cc⟩
 refine qr (mv rfl (mv rfl ?_))
 obtain⟨cS,cd,ce⟩:=ob br
 refine lk c25 (a1T F az.enter0 cc ap cd) ?_
 rintro cT cU ⟨cf,cg,ch,cj,rfl,ck,cl⟩
 have cm:=(az.c0 ck).t2
 refine av rfl (nq (l3 ?_))
 cases oi ce
 exact ey results17 ⟨cf,cg,ch,cj,rfl,cm.s,cl⟩

theorem a6y {q0:u5}{q1:A7}{q2:r5}{q3:Int}{q4:Int}{q5:Int}{r:(List B0)}(hS:SH w K [] w K [])(au:b7 D8 K A a b q0.Stops)(aw:b7 L0 K B c d q0.Syns)(T:b7 F8 K C f i q1.Docs)(ax:b7 B8 K D k l q1.Entries)(ay:i7 q2.Kind)(az:q2.Field.length≤maxLen)(aA:b7 D8 K G m n q2.Words)(aB:i7 q2.From)(aC:i7 q2.To)(aD:b7 F3 K H o p q2.Kids)(bb:i7 q3)(bc:i7 q4)(aV:i7 q5)(hm:a0g F q0 q1 q2 q3 q4 q5=some r):
  Calls prog 18 #[.agg #[V3 A a b,V3 B c d],.agg #[V3 C f i,V3 D k l],.agg #[V6 q2.Kind,sv q2.Field,V3 G m n,V6 q2.From,V6 q2.To,V3 H o p],V6 q3,V6 q4,V6 q5] w fun e w'=>∃a_1 n_2 c_3 K',e= .returned (V3 a_1 n_2 c_3)∧SH w K [] w' K' []∧b7 E8 K' a_1 n_2 c_3 r:=by
 rw [a0g] at hm
 refine ci func18 rfl ntmps18 (sr (bx rfl hS fun U df bd=>?_))
 have be:SH _ _ _ _ _ [u9 U [V3 A a b,V3 B c d] 26]:=bd
 refine bx rfl be fun V dg bf=>?_
 have bg:SH _ _ _ _ _ [u9 V [V3 C f i,V3 D k l] 30,_]:=bf
 refine bx rfl bg fun W dh bh=>?_
 have bi:SH _ _ _ _ _ [u9 W [V6 q2.Kind,sv q2.Field,V3 G m n,V6 q2.From,V6 q2.To,V3 H o p] 33,_,_]:=bh
 refine lv (r_n rfl) (nr (b0 E8 underlying39 M6 bi fun aE di bj q bk aj=>(av rfl (ns (p9 ?_)))))
 obtain⟨bl,bm,bn⟩:=ob hm
 refine l6 (IV w K [] bj [(3,V6 q3),(4,V6 q4),(5,V6 q5),(6,pt U),(7,pt V),(8,pt W),(13,V3 aE 0 0),(42,.bool bl)] [u9 U [V3 A a b,V3 B c d] 26,u9 V [V3 C f i,V3 D k l] 30,u9 W [V6 q2.Kind,sv q2.Field,V3 G m n,V6 q2.From,V6 q2.To,V3 H o p] 33,tail (V3 aE 0 0) 45 2]) ?_ ?_
 ·refine j3 (lv (n8 (ds:=[V3 A a b,V3 B c d]) E2 rfl m3 aj rfl rfl) (lv (n8 (ds:=[V3 C f i,V3 D k l]) F2 rfl m2 aj rfl rfl) ?_))
  obtain⟨dj,bo,bp⟩:=ob bm
  refine lk c4M (a6Q F aj.enter0 (au.mono q) (aw.mono q) (T.mono q) (ax.mono q) bo) ?_
  rintro dk dl ⟨bq,rfl,S⟩
  have ak:=(aj.c0 S).t4
  refine lv (A4 rfl) (mv rfl (bt bp (fun I aF=>?_) (fun I aF=>?_)))
  ·refine lu I (lu I (lu I (lv (L8 rfl I rfl) (mv rfl (lu rfl (lu rfl (lu rfl (lv (L8 rfl rfl rfl) (mv rfl ?_)))))))))
   refine lu rfl (lu rfl (lu rfl (lv (L8 rfl rfl rfl) (mv rfl ?_))))
   iterate 5 refine lu rfl ?_
   refine lv (L8 rfl rfl rfl) (i8 ?_)
   cases oi aF
   exact qd ⟨bq,rfl,ak.f1.f2.f3,S.le⟩
  refine lg I (n8 (ds:=[V6 q2.Kind,sv q2.Field,V3 G m n,V6 q2.From,V6 q2.To,V3 H o p]) C6 rfl m1 ak rfl rfl) ?_
  obtain⟨dm,br,bs⟩:=ob aF
  refine A0 (wg rfl rfl I) rfl (z7 (vs:=[.agg #[V6 q2.Kind,sv q2.Field,V3 G m n,V6 q2.From,V6 q2.To,V3 H o p]]) c4N rfl) (a59 F ak.enter0 ay az (aA.mono (q.trans S.le)) aB aC (aD.mono (q.trans S.le)) br) ?_
  rintro dn dp ⟨bu,rfl,ad⟩
  refine⟨_,rfl,?_⟩
  have aG:=(ak.c0 ad).t4
  refine lg I (A4 rfl) (lv (o4 rfl I rfl) (mv rfl (bt bs (fun J aH=>?_) (fun J aH=>?_))))
  ·refine lu J (lu J (lu J (lv (L8 rfl J rfl) (mv rfl (lu rfl (lu rfl (lu rfl (lv (L8 rfl rfl rfl) (mv rfl ?_)))))))))
   iterate 5 refine lu rfl ?_
   refine lv (L8 rfl rfl rfl) (i8 ?_)
   cases oi aH
   exact qd ⟨bu,rfl,aG.f1.f2.f3,(S.le.trans ad.le)⟩
  refine lg J (i5 rfl) ?_
  obtain⟨dq,bv,bz⟩:=ob aH
  refine A0 (wg rfl rfl J) rfl (z7 (vs:=[V6 q5,V6 1,V6 16]) a5X rfl) (G5 F aG.enter0 aV (by decide :i7 1) (by decide :i7 16) bv) ?_
  rintro dr dt ⟨bA,rfl,al⟩
  refine⟨_,rfl,?_⟩
  have aI:=(aG.c0 al).t4
  refine lg J (A4 rfl) (lv (o4 rfl J rfl) (mv rfl (bt bz (fun O aJ=>?_) (fun O aJ=>?_))))
  ·refine lu O (lu O (lu O (lv (L8 rfl O rfl) (mv rfl ?_))))
   iterate 5 refine lu rfl ?_
   refine lv (L8 rfl rfl rfl) (i8 ?_)
   cases oi aJ
   exact qd ⟨bA,rfl,aI.f1.f2.f3,((S.le.trans ad.le).trans al.le)⟩
  refine lg O (i5 rfl) ?_
  obtain⟨du,bB,bC⟩:=ob aJ
  refine A0 (wg rfl rfl O) rfl (z7 (vs:=[V6 q3,V6 1,V6 4]) a5X rfl) (G5 F aI.enter0 bb (by decide :i7 1) (by decide :i7 4) bB) ?_
  rintro dv dw ⟨bD,rfl,aK⟩
  refine⟨_,rfl,?_⟩
  have aL:=(aI.c0 aK).t4
  refine lg O (A4 rfl) (lv (o4 rfl O rfl) (mv rfl (bt bC (fun R aM=>?_) (fun R aM=>?_))))
  ·iterate 5 refine lu R ?_
   refine lv (L8 rfl R rfl) (i8 ?_)
   cases oi aM
   exact qd ⟨bD,rfl,aL.f1.f2.f3,(((S.le.trans ad.le).trans al.le).trans aK.le)⟩
  refine lg R (i5 rfl) (lg R (i5 rfl) (lg R (H2 rfl rfl) ?_))
  obtain⟨dx,bE,bF⟩:=ob aM
  refine A0 (wg rfl rfl R) rfl (z7 (vs:=[V6 q4,V6 0,V6 (A1 (q3-(1:Int)))]) a5X rfl) (G5 F aL.enter0 bc M1 (s6 _) bE) ?_
  rintro dy dz ⟨bG,rfl,aW⟩
  refine⟨_,rfl,?_⟩
  have bH:=(aL.c0 aW).t4
  refine lg R (A4 rfl) (lv (o4 rfl R rfl) (i8 ?_))
  cases oi bF
  exact qd ⟨bG,rfl,bH.f1.f2.f3,((((S.le.trans ad.le).trans al.le).trans aK.le).trans aW.le)⟩
 rintro _ dA ⟨am,rfl,aX,x⟩
 refine l4 (D4 bn rfl (fun bI aN=>?_) (fun bI aN=>?_))
 ·refine sr (lv (r_n rfl) (nq (rr ?_)))
  cases oi aN
  exact ey results18 ⟨none,0,0,am,rfl,aX.s,(b7.nil _ _)⟩
 refine j5 (qs (sr (lv (N4 rfl) (nq ?_))))
 obtain⟨bJ,bK,bL⟩:=ob aN
 refine l6 (fun E' w'=>∃an ao ap ae,E'=[(13,V3 an ao ap)]∧SH w K [] w' ae []∧I9 am ae∧b7 E8 ae an ao ap bJ) ?_ ?_
 ·refine j7 ?_
  obtain⟨dB,bM,bN⟩:=ob bK
  have bO:=aX.sb (sk (sk (sk (sd sz))))
  refine qw (fun (af:(List B0)×Int) E' w'=>∃X Y aa ag,E'=[(3,V6 q3),(4,V6 q4),(5,V6 q5),(6,pt U),(7,pt V),(8,pt W),(13,V3 X Y aa),(14,V6 af.2)]∧SH w K [] w' ag [u9 U [V3 A a b,V3 B c d] 26,u9 V [V3 C f i,V3 D k l] 30,u9 W [V6 q2.Kind,sv q2.Field,V3 G m n,V6 q2.From,V6 q2.To,V3 H o p] 33]∧I9 am ag∧b7 E8 ag X Y aa af.1∧i7 af.2) bM ⟨aE,0,0,am,rfl,bO,kr,(bk.mono x),M1⟩ ?_
  rintro af _ dC dD bP bQ ⟨X,Y,aa,ag,rfl,aq,s,aO,dE⟩
  refine p9 (sr (mv rfl (fl S5 rfl a4l m1 aq rfl (lv (q7 underlying27 rfl (T.mono ((q.trans x).trans s))) (lv (s7 rfl rfl) (nq (D4 bP rfl (fun bR aP=>?_) (fun bR aP=>?_))))))))
  ·refine j5 (qs (j7 (p9 (E1 mixed (by kernel_rfl) aq (kh (J7 (ds:=[V3 A a b,V3 B c d]) E2 rfl m0 rfl rfl) (kh (J7 (ds:=[V3 C f i,V3 D k l]) F2 rfl m1 rfl rfl) (kh (J7 (ds:=[V6 q2.Kind,sv q2.Field,V3 G m n,V6 q2.From,V6 q2.To,V3 H o p]) C6 rfl m2 rfl rfl) (kv (c9 S5 rfl) (kh (z6 a4l rfl m1 rfl) ?_)))))))))
   refine km rfl ?_
   obtain⟨bS,bT,bU⟩:=ob aP
   refine ki underlying27 F7 (T.mono ((q.trans x).trans s)) bT fun bV bW dF bX bY=>?_
   obtain⟨bZ,ca,cb,cc,cd,ce,rfl,aY,dG,dH⟩:=bX
   have cf:E9 _ bV bW [V6 bS.Id,V3 bZ ca cb,V3 cc cd ce]:=bY
   refine kv (c9 S6 rfl) (kh (B6 E4 rfl (cf 0 _ rfl)) ?_)
   obtain⟨aQ,aZ,cg⟩:=ob bU
   refine kd b73 (fun _ _ ch ab=>(X4 F) ch.enter0 (b7.mono (((q.trans x).trans s).trans ab) au) (b7.mono (((q.trans x).trans s).trans ab) aw) (b7.mono (((q.trans x).trans s).trans ab) T) (b7.mono (((q.trans x).trans s).trans ab) ax) ay az (b7.mono (((q.trans x).trans s).trans ab) aA) aB aC (b7.mono (((q.trans x).trans s).trans ab) aD) aY aZ) ?_
   obtain⟨_,_,_,⟨_,_,_,cj⟩,_⟩:=(X4 F) aq.enter0 (au.mono ((q.trans x).trans s)) (aw.mono ((q.trans x).trans s)) (T.mono ((q.trans x).trans s)) (ax.mono ((q.trans x).trans s)) ay az (aA.mono ((q.trans x).trans s)) aB aC (aD.mono ((q.trans x).trans s)) aY aZ []
   refine kv (x8 rfl) (B7 ?_)
   rintro dI ⟨aR,ar,ac⟩
   refine qs ?_
   obtain⟨ck,cl,cm⟩:=ob cg
   refine l6 (IV w K [] aR [(3,V6 q3),(4,V6 q4),(5,V6 q5),(6,pt U),(7,pt V),(8,pt W),(13,V3 X Y aa),(14,V6 af.2),(15,V6 aQ),(73,.bool ck)] [u9 U [V3 A a b,V3 B c d] 26,u9 V [V3 C f i,V3 D k l] 30,u9 W [V6 q2.Kind,sv q2.Field,V3 G m n,V6 q2.From,V6 q2.To,V3 H o p] 33]) ?_ ?_
   ·refine j3 (mv rfl (lv (F9 rfl rfl) (mv rfl (bt cl (fun y aS=>?_) (fun y aS=>?_)))))
    ·refine lg y (c9 S5 rfl) (lg y (u6 a4l rfl m1 ar rfl) (lg y (i5 rfl) ?_))
     obtain⟨cn,cp,cq⟩:=ob aS
     refine I3 (t:=F8) (wg rfl rfl y) rfl underlying27 F7 rfl rfl (b7.mono (((q.trans x).trans s).trans ac) T) cp fun cr ct dJ cu cv=>?_
     obtain⟨cw,cx,cy,cz,cA,cB,rfl,dK,dL,dM⟩:=cu
     have cC:E9 _ cr ct [V6 cn.Id,V3 cw cx cy,V3 cz cA cB]:=cv
     refine lg y (c9 S6 rfl) (lg y (y7 E4 rfl ar (cC 0 _ rfl)) (lg y (i5 rfl) ?_))
     obtain⟨dN,cD,cE⟩:=ob cq
     refine lg y (a6U rfl rfl cD) (lg y (i5 rfl) (lg y (A6 rfl rfl) (lv (o0 rfl y rfl) (i8 ?_))))
     cases oi cE
     exact qd ⟨aR,rfl,ar,kr⟩
    iterate 10 refine lu y ?_
    refine lv (J6 rfl y rfl) (i8 ?_)
    cases oi aS
    exact qd ⟨aR,rfl,ar,kr⟩
   rintro _ dO ⟨cF,rfl,ah,ai⟩
   refine l4 (D4 cm rfl (fun cG aT=>?_) (fun cG aT=>?_))
   ·refine j3 (mv rfl (fl S5 rfl a4l m1 ah rfl (mv rfl ?_)))
    obtain⟨aU,cH,cI⟩:=ob aT
    refine li underlying27 F7 (b7.mono ((((q.trans x).trans s).trans ac).trans ai) T) cH fun cJ cK dP cL cM=>?_
    obtain⟨cN,cO,cP,cQ,cR,cS,rfl,cT,dQ,dR⟩:=cL
    have cU:E9 _ cJ cK [V6 aU.Id,V3 cN cO cP,V3 cQ cR cS]:=cM
    refine fa S6 rfl (lv (y7 E4 rfl ah (cU 0 _ rfl)) (mv rfl (lv (D3 (cs:=#[V6 aU.Id,V6 aQ]) c5A M6 rfl (by kernel_rfl)) (mv rfl ?_))))
    obtain⟨dS,cV,cW⟩:=ob cI
    refine lk c6P ((a7g F (q1:=(B0.mk aU.Id aQ))) ah.enter0 (aO.mono (ac.trans ai)) cT cj aV cV) ?_
    rintro dT dU ⟨cX,cY,cZ,da,rfl,ba,db⟩
    have dc:=(ah.c0 ba).t3
    refine av rfl (nb (l4 (j3 (mv rfl (lv (y4 rfl rfl) (av rfl (i8 ?_)))))))
    cases oi cW
    exact qd ⟨_,rfl,cX,cY,cZ,da,rfl,dc,(((s.trans ac).trans ai).trans ba.le),db,(s6 _)⟩
   refine j5 (x9 (l4 (j3 (mv rfl (lv (y4 rfl rfl) (av rfl (i8 ?_)))))))
   cases oi aT
   exact qd ⟨_,rfl,X,Y,aa,cF,rfl,ah,((s.trans ac).trans ai),(aO.mono (ac.trans ai)),(s6 _)⟩
  refine w8 (g6 (g6 ?_))
  cases oi aP
  cases bQ _ rfl
  refine l5 ?_
  cases oi bN
  exact qd ⟨X,Y,aa,ag,rfl,aq.s,s,aO⟩
 rintro _ dV ⟨an,ao,ap,ae,rfl,dd,dW,de⟩
 refine qr (mv rfl (av rfl (nq (l3 ?_))))
 cases oi bL
 exact ey results18 ⟨an,ao,ap,ae,rfl,dd,de⟩

theorem a9b {q0:List UInt8}{r:Bool}(hS:SH w K [] w K [])(bh:b7 tU8 K A a b q0)(hG6:a5U C5 0 c L3 w)(hD: ¬dr.D)(hm:a1P F q0=some r):
  Calls prog 5 #[V3 A a b] w (R_b w K r):=by
 rw [a1P] at hm
 refine ci func5 rfl ntmps5 (sr (lv (P2 rfl) (P6 (mv rfl (lv (q7 underlying22 rfl bh) (lv (F9 rfl rfl) (nq (P1 rfl (fun aO=>?_) (fun aO=>?_)))))))))
 ·have h8:=Z8 aO hm
  refine sr (lv (r_t rfl) (nq (rr ?_)))
  cases oi h8
  exact ey results5 ⟨K,rfl,hS⟩
 have h8:=Z7 aO hm
 refine j5 (qr (mv rfl ?_))
 obtain⟨d,bv,bx⟩:=ob h8
 refine lk c66 (a7R F hS.enter0 bh bv) ?_
 rintro dl dm ⟨x,y,B,C,D,G,H,I,J,O,R,S,ac,ad,ae,af,ag,ah,dn,rfl,bz,ak,am,an,ao,ax,ay,az,aA,aB,aC,aQ,aR,aS⟩
 have bA:=(hS.c0 bz).t5
 refine mv rfl (lv (B2 rfl rfl) (lv (B2 rfl rfl) (lv (B2 rfl rfl) (lv (B2 rfl rfl) (lv (B2 rfl rfl) (lv (B2 rfl rfl) (al E2 bA fun aT dp bB=>?_)))))))
 have bC:SH _ _ _ _ _ [u9 aT [V3 none 0 0,V3 none 0 0] 26,_,_,_,_,_]:=bB
 refine al F2 bC fun aU dq bD=>?_
 have bE:SH _ _ _ _ _ [u9 aU [V3 none 0 0,V3 none 0 0] 30,_,_,_,_,_,_]:=bD
 refine al C6 bE fun aV dt bF=>?_
 have bG:SH _ _ _ _ _ [u9 aV [V6 0,sv [],V3 none 0 0,V6 0,V6 0,V3 none 0 0] 33,_,_,_,_,_,_,_]:=bF
 refine lw [V3 x y B,V3 C D G] E2 bG.f2 fun du bH=>(lw [V3 H I J,V3 O R S] F2 bH.f2 fun dv bI=>(lw [V6 d.2.2.1.Kind,sv d.2.2.1.Field,V3 ac ad ae,V6 d.2.2.1.From,V6 d.2.2.1.To,V3 af ag ah] C6 bI.f2 fun dw ai=>(av rfl (av rfl (av rfl (nr (lv (n8 (ds:=[V3 x y B,V3 C D G]) E2 rfl m2 ai rfl rfl) (lv (n8 (ds:=[V3 H I J,V3 O R S]) F2 rfl m1 ai rfl rfl) (lv (n8 (ds:=[V6 d.2.2.1.Kind,sv d.2.2.1.Field,V3 ac ad ae,V6 d.2.2.1.From,V6 d.2.2.1.To,V3 af ag ah]) C6 rfl m0 ai rfl rfl) ?_)))))))))
 refine mv rfl (mv rfl (mv rfl ?_))
 obtain⟨dx,bJ,bK⟩:=ob bx
 refine lk c67 (b0I F ai.enter0 ak am an ao ax ay az aA aB aC aQ aR aS (hG6.keep ai) hD bJ) ?_
 rintro dy dz ⟨aD,aE,aF,bL,rfl,f,aW⟩
 have ap:=(ai.c0 f).t9
 refine av rfl (ns (p9 ?_))
 obtain⟨bM,bN,bO⟩:=ob bK
 refine l6 (IV w K [] bL [(3,pt aT),(4,pt aU),(5,pt aV),(6,V6 d.2.2.2.1),(7,V6 d.2.2.2.2.1),(8,V6 d.2.2.2.2.2),(9,V3 aD aE aF),(60,.bool bM)] [u9 aT [V3 x y B,V3 C D G] 26,u9 aU [V3 H I J,V3 O R S] 30,u9 aV [V6 d.2.2.1.Kind,sv d.2.2.1.Field,V3 ac ad ae,V6 d.2.2.1.From,V6 d.2.2.1.To,V3 af ag ah] 33]) ?_ ?_
 ·refine j3 (mv rfl (lv (n8 (ds:=[V3 x y B,V3 C D G]) E2 rfl m3 ap rfl rfl) (lv (n8 (ds:=[V3 H I J,V3 O R S]) F2 rfl m2 ap rfl rfl) (lv (n8 (ds:=[V6 d.2.2.1.Kind,sv d.2.2.1.Field,V3 ac ad ae,V6 d.2.2.1.From,V6 d.2.2.1.To,V3 af ag ah]) C6 rfl m1 ap rfl rfl) (mv rfl (mv rfl (mv rfl ?_)))))))
  obtain⟨dA,bP,bQ⟩:=ob bN
  refine lk c6h (a6y F ap.enter0 (ak.mono f.le) (am.mono f.le) (an.mono f.le) (ao.mono f.le) ax ay (az.mono f.le) aA aB (aC.mono f.le) aQ aR aS bP) ?_
  rintro dB dC ⟨dD,dE,dF,dG,rfl,k,bR⟩
  have bi:=(ap.c0 k).t9
  obtain⟨dH,bS,bT⟩:=ob bQ
  refine lk b72 (Y5 F bi.enter0 (aW.mono k.le) bR bS) ?_
  rintro dI dJ ⟨bU,rfl,q⟩
  have aq:=(bi.c0 q).t9
  refine lv (A4 rfl) (mv rfl (bt bT (fun l aX=>?_) (fun l aX=>?_)))
  ·refine lu l (lu l (lu l (lu l (lv (L8 rfl l rfl) (mv rfl (lu rfl (lu rfl (lv (L8 rfl rfl rfl) (mv rfl ?_)))))))))
   refine lu rfl (lu rfl (lu rfl (lv (L8 rfl rfl rfl) (mv rfl (lu rfl (lu rfl (lv (L8 rfl rfl rfl) (i8 ?_))))))))
   cases oi aX
   exact qd ⟨bU,rfl,aq.f1.f2.f3.s,(k.le.trans q.le)⟩
  refine lg l (n8 (ds:=[V3 x y B,V3 C D G]) E2 rfl m3 aq rfl rfl) (lg l (n8 (ds:=[V3 H I J,V3 O R S]) F2 rfl m2 aq rfl rfl) ?_)
  obtain⟨dK,bV,bW⟩:=ob aX
  refine A0 (wg rfl rfl l) rfl (z7 (vs:=[.agg #[V3 x y B,V3 C D G],.agg #[V3 H I J,V3 O R S]]) c1s rfl) (a2Z F aq.enter0 (ak.mono ((f.le.trans k.le).trans q.le)) (am.mono ((f.le.trans k.le).trans q.le)) (an.mono ((f.le.trans k.le).trans q.le)) (ao.mono ((f.le.trans k.le).trans q.le)) bV) ?_
  rintro dL dM ⟨aG,rfl,ar⟩
  refine⟨_,rfl,?_⟩
  have aH:=(aq.c0 ar).t9
  refine lg l (A4 rfl) (lv (o4 rfl l rfl) (mv rfl (bt bW (fun X aY=>?_) (fun X aY=>?_))))
  ·refine lu X (lu X (lv (L8 rfl X rfl) (mv rfl (lu rfl (lu rfl (lu rfl (lv (L8 rfl rfl rfl) (mv rfl (lu rfl ?_)))))))))
   refine lu rfl (lv (L8 rfl rfl rfl) (i8 ?_))
   cases oi aY
   exact qd ⟨aG,rfl,aH.f1.f2.f3.s,((k.le.trans q.le).trans ar.le)⟩
  refine lg X (i5 rfl) (lg X (s7 rfl rfl) (lv (o4 rfl X rfl) (mv rfl (bt aY (fun s aZ=>?_) (fun s aZ=>?_)))))
  ·refine lu s (lu s (lu s (lv (L8 rfl s rfl) (mv rfl (lu rfl (lu rfl (lv (L8 rfl rfl rfl) (i8 ?_))))))))
   cases oi aZ
   exact qd ⟨aG,rfl,aH.f1.f2.f3.s,((k.le.trans q.le).trans ar.le)⟩
  refine lg s (i5 rfl) (lg s (i5 rfl) (lg s (a3S rfl rfl) (lv (o4 rfl s rfl) (mv rfl (bt aZ (fun Y ba=>?_) (fun Y ba=>?_))))))
  ·refine lu Y (lu Y (lv (L8 rfl Y rfl) (i8 ?_)))
   cases oi ba
   exact qd ⟨aG,rfl,aH.f1.f2.f3.s,((k.le.trans q.le).trans ar.le)⟩
  refine lg Y (i5 rfl) (lg Y (s7 rfl rfl) (lv (o4 rfl Y rfl) (i8 ?_)))
  cases oi ba
  exact qd ⟨aG,rfl,aH.f1.f2.f3.s,((k.le.trans q.le).trans ar.le)⟩
 rintro _ dN ⟨dO,rfl,m,i⟩
 refine l4 (D4 bO rfl (fun bX bb=>?_) (fun bX bb=>?_))
 ·refine sr (mv rfl (lv (n8 (ds:=[V3 x y B,V3 C D G]) E2 rfl m0 m rfl rfl) (lv (n8 (ds:=[V3 H I J,V3 O R S]) F2 rfl m1 m rfl rfl) (lv (n8 (ds:=[V6 d.2.2.1.Kind,sv d.2.2.1.Field,V3 ac ad ae,V6 d.2.2.1.From,V6 d.2.2.1.To,V3 af ag ah]) C6 rfl m2 m rfl rfl) (mv rfl (mv rfl (mv rfl ?_)))))))
  obtain⟨dP,bY,bZ⟩:=ob bb
  refine lk c6h (a6y F m.enter0 (ak.mono (f.le.trans i)) (am.mono (f.le.trans i)) (an.mono (f.le.trans i)) (ao.mono (f.le.trans i)) ax ay (az.mono (f.le.trans i)) aA aB (aC.mono (f.le.trans i)) aQ aR aS bY) ?_
  rintro dQ dR ⟨dS,dT,dU,dV,rfl,bj,ca⟩
  have bk:=(m.c0 bj).t3
  obtain⟨dW,cb,cc⟩:=ob bZ
  refine lk b72 (Y5 F bk.enter0 (aW.mono (i.trans bj.le)) ca cb) ?_
  rintro dX dY ⟨cd,rfl,ce⟩
  have cf:=(bk.c0 ce).t3
  refine av rfl (nq (rr ?_))
  cases oi cc
  exact ey results5 ⟨cd,rfl,cf.s⟩
 refine j5 (qr (lv (n8 (ds:=[V3 x y B,V3 C D G]) E2 rfl m0 m rfl rfl) (lv (n8 (ds:=[V3 H I J,V3 O R S]) F2 rfl m1 m rfl rfl) (lv (n8 (ds:=[V6 d.2.2.1.Kind,sv d.2.2.1.Field,V3 ac ad ae,V6 d.2.2.1.From,V6 d.2.2.1.To,V3 af ag ah]) C6 rfl m2 m rfl rfl) ?_))))
 obtain⟨dZ,cg,ch⟩:=ob bb
 refine lk c4J (a57 F m.enter0 (ak.mono (f.le.trans i)) (am.mono (f.le.trans i)) (an.mono (f.le.trans i)) (ao.mono (f.le.trans i)) ax ay (az.mono (f.le.trans i)) aA aB (aC.mono (f.le.trans i)) (by decide :i7 16) (hG6.keep m) hD cg) ?_
 rintro ea eb ⟨bl,bm,bn,ec,rfl,bo,bc⟩
 have cj:=(m.c0 bo).t4
 refine av rfl (nr (b0 E8 underlying39 M6 cj fun ck ed bd aI cl cm=>(av rfl (P6 (lv (N4 rfl) (nq ?_))))))
 obtain⟨cn,cp,cq⟩:=ob ch
 refine l6 (fun E' w'=>∃aJ aK aL aM,E'=[(9,V3 aD aE aF),(11,V3 aJ aK aL)]∧SH w K [] w' aM [tail (V3 aJ aK aL) 45 2]∧I9 bd aM∧b7 E8 aM aJ aK aL cn) ?_ ?_
 ·refine j7 ?_
  obtain⟨ee,cr,cs⟩:=ob cp
  have ct:=cm.sb (sk (sd (sd (sd (sd sz)))))
  refine qw (fun (au:(List B0)×Int) E' w'=>∃T U V aa,E'=[(6,V6 d.2.2.2.1),(7,V6 d.2.2.2.2.1),(8,V6 d.2.2.2.2.2),(9,V3 aD aE aF),(10,V3 bl bm bn),(11,V3 T U V),(12,V6 au.2)]∧SH w K [] w' aa [tail (V3 T U V) 45 2]∧I9 bd aa∧b7 E8 aa T U V au.1∧i7 au.2) cr ⟨ck,0,0,bd,rfl,ct,kr,cl,M1⟩ ?_
  rintro au _ ef eg cu cv ⟨T,U,V,aa,rfl,bp,aj,aN,eh⟩
  refine p9 (p9 ?_)
  obtain⟨cw,cx,cy⟩:=ob cu
  refine l6 (IV w K [] aa [(6,V6 d.2.2.2.1),(7,V6 d.2.2.2.2.1),(8,V6 d.2.2.2.2.2),(9,V3 aD aE aF),(10,V3 bl bm bn),(11,V3 T U V),(12,V6 au.2),(84,.bool cw)] [tail (V3 T U V) 45 2]) ?_ ?_
  ·refine j3 (mv rfl (mv rfl (lv (q7 underlying39 rfl (bc.mono (aI.trans aj))) (lv (s7 rfl rfl) (mv rfl (bt cx (fun o be=>?_) (fun o be=>?_)))))))
   ·refine lg o (i5 rfl) (lg o (q7 underlying39 rfl aN) (lg o (i5 rfl) (lg o (s7 rfl rfl) (lv (o0 rfl o rfl) (i8 ?_)))))
    cases oi be
    exact qd ⟨aa,rfl,bp,kr⟩
   refine lu o (lu o (lu o (lu o (lv (J6 rfl o rfl) (i8 ?_)))))
   cases oi be
   exact qd ⟨aa,rfl,bp,kr⟩
  rintro _ ei ⟨bq,rfl,aw,W⟩
  refine l4 (D4 cy rfl (fun cz bf=>?_) (fun cz bf=>?_))
  ·refine j5 (qs (j7 (sr (mv rfl (mv rfl ?_)))))
   obtain⟨br,cA,cB⟩:=ob bf
   refine li underlying39 M6 (bc.mono ((aI.trans aj).trans W)) cA fun cC cD ej cE cF=>?_
   obtain⟨rfl,ek,el⟩:=cE
   have cG:E9 _ cC cD [V6 br.Doc,V6 br.Points]:=cF
   refine fa a86 rfl (lv (y7 E4 rfl aw (cG 0 _ rfl)) (mv rfl ?_))
   obtain⟨em,cH,cI⟩:=ob cB
   refine lv (a6U rfl rfl cH) (mv rfl (lv (A6 rfl rfl) (nq (D4 cI rfl (fun cJ bg=>?_) (fun cJ bg=>?_)))))
   ·refine j3 (mv rfl (mv rfl (mv rfl ?_)))
    obtain⟨ab,cK,cL⟩:=ob bg
    refine li underlying39 M6 (bc.mono ((aI.trans aj).trans W)) cK fun cM cN en cO cP=>?_
    obtain⟨rfl,cQ,cR⟩:=cO
    have cS:E9 _ cM cN [V6 ab.Doc,V6 ab.Points]:=cP
    refine lv (F5 M6 rfl aw cS rfl) (lb E8 (.agg #[V6 ab.Doc,V6 ab.Points]) [V6 ab.Doc,V6 ab.Points] ab underlying39 M6 ⟨rfl,cQ,cR⟩ aw fun eo ep eq bs cT cU=>?_)
    obtain⟨es,cV,cW⟩:=ob cL
    refine lp underlying39 M6 (aN.mono (W.trans bs)) cT cV cU.f1 fun cX cY cZ et da db dc dd=>(av rfl (nb (l4 (j3 (mv rfl (lv (y4 rfl rfl) (av rfl (i8 ?_))))))))
    cases oi cW
    exact qd ⟨_,rfl,cX,cY,cZ,da,rfl,dd.s,(((aj.trans W).trans bs).trans db),dc,(s6 _)⟩
   refine j5 (x9 (l4 (j3 (mv rfl (lv (y4 rfl rfl) (av rfl (i8 ?_)))))))
   cases oi bg
   exact qd ⟨_,rfl,T,U,V,bq,rfl,aw,(aj.trans W),(aN.mono W),(s6 _)⟩
  refine w8 (g6 (g6 ?_))
  cases oi bf
  cases cv _ rfl
  refine l5 ?_
  cases oi cs
  exact qd ⟨T,U,V,bq,rfl,aw,(aj.trans W),(aN.mono W)⟩
 rintro _ eu ⟨aJ,aK,aL,aM,rfl,bu,de,df⟩
 refine qr (mv rfl (mv rfl ?_))
 obtain⟨ev,dg,dh⟩:=ob cq
 refine lk b72 (Y5 F bu.enter0 (b7.mono (((i.trans bo.le).trans aI).trans de) aW) df dg) ?_
 rintro ew ex ⟨di,rfl,dj⟩
 have dk:=(bu.c0 dj).t1
 refine av rfl (nq (l3 ?_))
 cases oi dh
 exact ey results5 ⟨di,rfl,dk.s⟩
end Go.Proofs.YtepcfgnicnibnaaGreatDoor
