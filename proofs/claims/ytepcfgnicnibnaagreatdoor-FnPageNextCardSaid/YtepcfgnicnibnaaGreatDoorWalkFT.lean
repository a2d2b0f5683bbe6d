/-
 Walks of the functions. Printed by gen.py.
-/
import Derived.Test.YtepcfgnicnibnaaGreatDoorWalkA0
import Derived.Test.YtepcfgnicnibnaaGreatDoorWalkA1
import Derived.Test.YtepcfgnicnibnaaGreatDoorWalkA2
import Derived.Test.YtepcfgnicnibnaaGreatDoorWalkA3
import Derived.Test.YtepcfgnicnibnaaGreatDoorWalkA4
import Derived.Test.YtepcfgnicnibnaaGreatDoorWalkA5
import Derived.Test.YtepcfgnicnibnaaGreatDoorWalkA6
set_option linter.unusedVariables false
set_option linter.unusedSectionVars false
set_option maxRecDepth 100000
namespace Go.Proofs.YtepcfgnicnibnaaGreatDoor
set_option maxHeartbeats 4000000
open Go Go.Fk Go.RowKit Tryz
variable (F:Nat){w:World}{K:F0}{Z:List Nat}{g1 g2 g3:Nat}{A B C D G H I J O R S T:Option Addr}{a b c d f i k l m n o p q s v x y aa ab ac ad ae af ag:Nat}
variable [dr:Dr]

theorem a5v {q0:List UInt8}{r:u5×A7×r5×Int}(hS:SH w K [] w K [])(ai:b7 tU8 K A a b q0)(hm:T8 F q0=some r):
  Calls prog 9 #[V3 A a b] w fun e w'=>∃a_1 n_2 c_3 a_5 n_6 c_7 a_9 n_10 c_11 a_13 n_14 c_15 a_19 n_20 c_21 a_25 n_26 c_27 K',e= .returned (.tuple #[.agg #[V3 a_1 n_2 c_3,V3 a_5 n_6 c_7],.agg #[V3 a_9 n_10 c_11,V3 a_13 n_14 c_15],.agg #[V6 r.2.2.1.Kind,sv r.2.2.1.Field,V3 a_19 n_20 c_21,V6 r.2.2.1.From,V6 r.2.2.1.To,V3 a_25 n_26 c_27],V6 r.2.2.2])∧SH w K [] w' K' [tail (V3 a_1 n_2 c_3) 9 1,tail (V3 a_5 n_6 c_7) 165 2,tail (V3 a_13 n_14 c_15) 104 3,tail (V3 a_19 n_20 c_21) 9 1,tail (V3 a_25 n_26 c_27) 33 6]∧b7 D8 K' a_1 n_2 c_3 r.1.Stops∧b7 L0 K' a_5 n_6 c_7 r.1.Syns∧b7 F8 K' a_9 n_10 c_11 r.2.1.Docs∧b7 B8 K' a_13 n_14 c_15 r.2.1.Entries∧i7 r.2.2.1.Kind∧r.2.2.1.Field.length≤maxLen∧b7 D8 K' a_19 n_20 c_21 r.2.2.1.Words∧i7 r.2.2.1.From∧i7 r.2.2.1.To∧b7 F3 K' a_25 n_26 c_27 r.2.2.1.Kids∧i7 r.2.2.2:=by
 rw [T8] at hm
 refine ci func9 rfl ntmps9 (sr (al E2 hS fun g5 w6 ak=>?_))
 have am:SH _ _ _ _ _ [u9 g5 [V3 none 0 0,V3 none 0 0] 26]:=ak
 refine al F2 am fun g9 br ao=>?_
 have ap:SH _ _ _ _ _ [u9 g9 [V3 none 0 0,V3 none 0 0] 30,_]:=ao
 refine al C6 ap fun aq bs ar=>?_
 have ab:SH _ _ _ _ _ [u9 aq [V6 0,sv [],V3 none 0 0,V6 0,V6 0,V3 none 0 0] 33,_,_]:=ar
 refine lv (N4 rfl) (nr (mv rfl ?_))
 obtain⟨bu,au,aw⟩:=ob hm
 refine lk c4K (a4N F ab.enter0 ai au) ?_
 rintro bv bx ⟨bz,bA,bB,bC,bD,rfl,ax,ay,az⟩
 have ac:=(ab.c0 ax).t4
 refine av rfl (nr (mv rfl ?_))
 obtain⟨bE,aA,aB⟩:=ob aw
 refine lk c4L (a3P F ac.e1 ay az aA) ?_
 rintro bF bG ⟨l,m,o,q,s,x,y,B,C,D,G,H,bH,bI,bJ,bK,rfl,aC,aD,aE,aF,aG,aH,aI⟩
 have aJ:=(ac.c1 aC).t7
 refine mv rfl (lv (B2 rfl rfl) (lv (B2 rfl rfl) (al E2 aJ fun ad bL aK=>?_)))
 have aL:SH _ _ _ _ _ [u9 ad [V3 none 0 0,V3 none 0 0] 26,_,_,_,_,_,_,_]:=aK
 refine al F2 aL fun ae bM aM=>?_
 have aN:SH _ _ _ _ _ [u9 ae [V3 none 0 0,V3 none 0 0] 30,_,_,_,_,_,_,_,_]:=aM
 refine lw [V3 l m o,V3 q s x] E2 aN.f1 fun bN aO=>(lw [V3 y B C,V3 D G H] F2 aO.f1 fun bO aP=>(nr (mv rfl ?_)))
 obtain⟨d,aQ,aR⟩:=ob aB
 have af:=aP.f5
 refine lk b32 (a2A F af.e1 aH aI (by decide :i7 3) aQ) ?_
 rintro bP bQ ⟨I,J,O,R,S,T,bR,bS,bT,aS,rfl,U,aT,aU,aV,aW,aX,aY,aZ,ba⟩
 have bb:=(af.c1 U).t11
 refine al C6 bb fun ag bU bc=>?_
 have bd:SH _ _ _ _ _ [u9 ag [V6 0,sv [],V3 none 0 0,V6 0,V6 0,V3 none 0 0] 33,_,_,_,_,_,_,_,_,_,_,_]:=bc
 refine lw [V6 d.1.Kind,sv d.1.Field,V3 I J O,V6 d.1.From,V6 d.1.To,V3 R S T] C6 bd fun bV be=>(ns ?_)
 have V:=be.drew
 refine wh1 (fun w'=>G8 aS w'∧A9 ad [V3 l m o,V3 q s x] w'∧A9 ae [V3 y B C,V3 D G H] w'∧A9 ag [V6 d.1.Kind,sv d.1.Field,V3 I J O,V6 d.1.From,V6 d.1.To,V3 R S T] w') (fun w'=>True) 10 [] mixed ⟨V.hasK kr,V.hasObj m5,V.hasObj m4,V.hasObj m0⟩ (fun _=>trivial) (gh (fun _ h=>B4 (ds:=[V3 l m o,V3 q s x]) E2 rfl rfl rfl h.2.1) (gh (fun _ h=>B4 (ds:=[V3 y B C,V3 D G H]) F2 rfl rfl rfl h.2.2.1) (gh (fun _ h=>B4 (ds:=[V6 d.1.Kind,sv d.1.Field,V3 I J O,V6 d.1.From,V6 d.1.To,V3 R S T]) C6 rfl rfl rfl h.2.2.2) (gt (i5 rfl) (gn ?_)))))
 refine H0 (t:=C9) (n:=5) (pv:=[(0,V6 1),(1,V6 2),(2,V6 3),(3,V6 16),(4,V6 0)]) (cs:=[V6 1,V6 2,V6 3,V6 16,V6 0]) (xs:=[(1:Int),(2:Int),(3:Int),(16:Int),(0:Int)]) wn rfl underlying51 E4 rfl rfl rfl (by kernel_rfl) rfl rfl (E7 (u:=V6 1) (z:=(1:Int)) ⟨rfl,(by decide :i7 1)⟩ (E7 (u:=V6 2) (z:=(2:Int)) ⟨rfl,(by decide :i7 2)⟩ (E7 (u:=V6 3) (z:=(3:Int)) ⟨rfl,(by decide :i7 3)⟩ (E7 (u:=V6 16) (z:=(16:Int)) ⟨rfl,(by decide :i7 16)⟩ (E7 (u:=V6 0) (z:=(0:Int)) ⟨rfl,M1⟩ a0o))))) V fun bW bX bY f bf W=>(i8 (qh ⟨W.hasK f,W.hasObj m6,W.hasObj m5,W.hasObj m1⟩ (fun _=>trivial) (gn ?_)))
 obtain⟨bZ,bg,bh⟩:=ob aR
 have ah:=W.f4
 refine lk b9Z (U2 F ah.e1 (aZ.mono f) ba bf bg) ?_
 rintro ca cb ⟨cc,cd,ce,bi,rfl,i,bj,cf,cg⟩
 have X:SH _ _ _ _ _ [_,_,_,_,_,_,_,_,_,_,_,_,_]:=SH.call (Lin:=[_]) ah i
 refine i8 (qh ⟨X.hasK (f.trans i.le),X.hasObj m6,X.hasObj m5,X.hasObj m2⟩ (fun _=>trivial) (gn ?_))
 have bk:SH _ _ _ _ _ [_,_,_,_,_,_,_,_,_,_,_,_,_]:=SH.front (p:=[_,_,_,_,_,_,_,_,_,_,_,_]) X
 refine lw [V3 l m o,V3 q s x] E2 bk fun ch Y=>(i8 (qh ⟨Y.hasK (f.trans i.le),Y.hasObj m7,Y.hasObj m6,Y.hasObj m3⟩ (fun _=>trivial) (gn ?_)))
 have bl:SH _ _ _ _ _ [_,_,_,_,_,_,_,_,_,_,_,_,_]:=SH.front (p:=[_,_,_,_,_,_,_,_,_,_,_,_]) Y
 refine lw [V3 y B C,V3 D G H] F2 bl fun cj aa=>(i8 (qh ⟨aa.hasK (f.trans i.le),aa.hasObj m8,aa.hasObj m7,aa.hasObj m4⟩ (fun _=>trivial) (gn ?_)))
 have bm:SH _ _ _ _ _ [_,_,_,_,_,_,_,_,_,_,_,_,_]:=SH.front (p:=[_,_,_,_,_,_,_,_,_,_,_,_]) aa
 refine lw [V6 d.1.Kind,sv d.1.Field,V3 I J O,V6 d.1.From,V6 d.1.To,V3 R S T] C6 bm fun ck k=>(i8 (qh ⟨k.hasK (f.trans i.le),k.hasObj m9,k.hasObj m8,k.hasObj m5⟩ (fun _=>trivial) (gt (x8 rfl) (gd' (l4 (l3 ?_))))))
 cases oi bh
 have bn:SH _ _ _ _ _ [_,_,_,_,_,_,_,_,_,_,_,_,_]:=SH.front (p:=[_,_,_,_,_,_,_,_,_,_,_,_]) k.f7.f7
 have bo:SH _ _ _ _ _ [_,_,_,_,_,_,_,_,_,_,_,_,_]:=SH.front (p:=[_,_,_,_,_,_,_,_,_,_,_,_]) bn
 have bp:SH _ _ _ _ _ [_,_,_,_,_,_,_,_,_,_,_,_,_]:=SH.front (p:=[_,_,_,_,_,_,_,_,_,_,_,_]) bo
 exact R6 (vs:=[_,_,_,_]) results9 ⟨⟨_,_,rfl,A5 E2 (cs:=[V3 l m o,V3 q s x]) (fun j c e=>by rw [Nat.zero_add,k.mem_obj m2];exact e) (.inl ⟨rfl,rfl,rfl⟩)⟩,⟨_,_,rfl,A5 F2 (cs:=[V3 y B C,V3 D G H]) (fun j c e=>by rw [Nat.zero_add,k.mem_obj m1];exact e) (.inl ⟨rfl,rfl,rfl⟩)⟩,⟨_,_,rfl,A5 C6 (cs:=[V6 d.1.Kind,sv d.1.Field,V3 I J O,V6 d.1.From,V6 d.1.To,V3 R S T]) (fun j c e=>by rw [Nat.zero_add,k.mem_obj m0];exact e) (.inl ⟨rfl,rfl,rfl⟩)⟩,rfl,trivial⟩ ⟨l,m,o,q,s,x,y,B,C,D,G,H,I,J,O,R,S,T,bi,rfl,bp.s,(aD.mono ((U.le.trans f).trans i.le)),(aE.mono ((U.le.trans f).trans i.le)),(aF.mono ((U.le.trans f).trans i.le)),(aG.mono ((U.le.trans f).trans i.le)),aT,aU,(aV.mono (f.trans i.le)),aW,aX,(aY.mono (f.trans i.le)),bj⟩

theorem a6x {q0:B0}{q1:B0}{r:Int}(hS:SH w K [] w K [])(y:i7 q0.Doc)(A:i7 q0.Points)(B:i7 q1.Doc)(C:i7 q1.Points)(hm:H1 F q0 q1=some r):
  Calls prog 57 #[.agg #[V6 q0.Doc,V6 q0.Points],.agg #[V6 q1.Doc,V6 q1.Points]] w (R_i w K r):=by
 rw [H1] at hm
 refine ci func57 rfl ntmps57 (sr (bx rfl hS fun o w6 D=>?_))
 have G:SH _ _ _ _ _ [u9 o [V6 q0.Doc,V6 q0.Points] 45]:=D
 refine bx rfl G fun q ac H=>?_
 have I:SH _ _ _ _ _ [u9 q [V6 q1.Doc,V6 q1.Points] 45,_]:=H
 refine lv (N4 rfl) (ns ?_)
 have a:=I.drew
 refine j_0 (fun w'=>G8 K w'∧A9 q [V6 q1.Doc,V6 q1.Points] w'∧A9 o [V6 q0.Doc,V6 q0.Points] w') 13 [] mixed ⟨a.hasK kr,a.hasObj m0,a.hasObj m1⟩ (jv 0 rfl (c9 b0v rfl) (jh 1 rfl (fun _ h=>A8 E4 rfl rfl h.2.1) (jv 2 rfl (c9 b0v rfl) (jh 3 rfl (fun _ h=>A8 E4 rfl rfl h.2.2) (jv 5 rfl (c9 a86 rfl) (jh 6 rfl (fun _ h=>A8 E4 rfl rfl h.2.2) (jv 7 rfl (c9 a86 rfl) (jh 8 rfl (fun _ h=>A8 E4 rfl rfl h.2.1) (j1 4 rfl ?_)))))))))
 obtain⟨b,J,O⟩:=ob hm
 refine lk c27 (a1e F a.enter0 C A J) ?_
 rintro ad ae ⟨af,rfl,c,R⟩
 have d:=(a.c0 c).t2
 refine R7 ⟨d.hasK c.le,d.hasObj m0,d.hasObj m1⟩ (j1 9 rfl ?_)
 obtain⟨f,S,T⟩:=ob O
 refine lk c27 (a1e F d.enter0 y B S) ?_
 rintro ag ah ⟨ai,rfl,k,U⟩
 have l:=(d.c0 k).t2
 refine R7 ⟨l.hasK (c.le.trans k.le),l.hasObj m0,l.hasObj m1⟩ (j1 10 rfl (H0 (t:=C9) (n:=2) (pv:=[(0,V6 b),(1,V6 f)]) (cs:=[V6 b,V6 f]) (xs:=[b,f]) wn rfl underlying51 E4 rfl rfl rfl (by kernel_rfl) rfl rfl (E7 (u:=V6 b) (z:=b) ⟨rfl,R⟩ (E7 (u:=V6 f) (z:=f) ⟨rfl,U⟩ a0o)) l fun aj ak al s V i=>(R7 ⟨i.hasK ((c.le.trans k.le).trans s),i.hasObj m1,i.hasObj m2⟩ (j1 11 rfl ?_))))
 obtain⟨am,W,X⟩:=ob T
 refine lk c4R (a54 F i.enter0 V W) ?_
 rintro an ao ⟨Y,rfl,x,aa⟩
 have m:=(i.c0 x).t3
 refine R7 ⟨m.hasK (((c.le.trans k.le).trans s).trans x.le),m.hasObj m1,m.hasObj m2⟩ (jv 12 rfl (x8 rfl) (jd (l4 (l3 ?_))))
 cases oi X
 exact ey results57 ⟨Y,rfl,m.s,aa⟩

theorem a1T {q0:List B0}{q1:Int}{r:(List B0)}(hS:SH w K [] w K [])(f:b7 E8 K A a b q0)(al:i7 q1)(hm:N2 F q0 q1=some r):
  Calls prog 45 #[V3 A a b,V6 q1] w fun e w'=>∃a_1 n_2 c_3 K',e= .returned (V3 a_1 n_2 c_3)∧SH w K [] w' K' [tail (V3 a_1 n_2 c_3) 45 2]∧b7 E8 K' a_1 n_2 c_3 r:=by
 rw [N2] at hm
 refine ci func45 rfl ntmps45 (sr (lv (r_n rfl) (nr (b0 E8 underlying39 M6 hS fun a6 w7 K8 i k l=>(mv rfl ?_)))))
 obtain⟨ap,m,o⟩:=ob hm
 refine lp underlying39 M6 k (f.mono i) m l fun q s B aq ar au C D=>(av rfl (nr (mv rfl ?_)))
 obtain⟨aw,G,H⟩:=ob o
 refine A0 wn rfl (z7 (vs:=[V3 q s B,.func (.func 57) #[] #[]]) c5H rfl) (b42 (T:=E8) sortLay102 b7r rfl (fun w=>Go.Fk.a48 M6 w) (fun w=>Go.Fk.P3 M6 w) (fun a b=>H1 F a b) 57 (Go.Proofs.enters_of func57 (by kernel_rfl) rfl) D hS.holds (fun b hb=>by cases hb) C (fun _ _ _ _ _ h=>h) (fun K1 W v x u y r hW I J hm=>by
  obtain⟨rfl,O,R⟩:=I
  obtain⟨rfl,S,U⟩:=J
  exact(a6x (dr:=⟨True⟩) F (SH.start (dr:=⟨True⟩) hW) O R S U hm).mono fun e w' ⟨K',he,hS',_⟩=>⟨K',he,hS'⟩) G) ?_
 rintro ay az ⟨aA,rfl,V,c⟩
 refine⟨_,rfl,?_⟩
 refine nr (b0 E8 underlying39 M6 V fun aB aC aD d X Y=>(mv rfl (mv rfl (lv (q7 underlying39 rfl (c.mono d)) (mv rfl (lv (b5U rfl rfl) ?_))))))
 obtain⟨aE,aa,ab⟩:=ob H
 refine a63 (t:=E8) wn rfl underlying39 M6 rfl rfl (c.mono d) aa fun aF aG aH ac=>?_
 obtain⟨aI,ad,ae⟩:=ob ab
 refine lp underlying39 M6 X ac ad Y fun af ag ah aJ ai aK aj ak=>(av rfl (nq (l3 ?_)))
 cases oi ae
 exact ey results45 ⟨af,ag,ah,ai,rfl,ak.s,aj⟩

theorem a7N {q0:u5}{q1:A7}{q2:r5}{q3:Int}{r:(List (List B0))}(hS:SH w K [] w K [])(ar:b7 D8 K A a b q0.Stops)(au:b7 L0 K B c d q0.Syns)(aw:b7 F8 K C f i q1.Docs)(ax:b7 B8 K D k l q1.Entries)(ay:i7 q2.Kind)(az:q2.Field.length≤maxLen)(aA:b7 D8 K G m n q2.Words)(aB:i7 q2.From)(aC:i7 q2.To)(aD:b7 F3 K H o p q2.Kids)(aE:i7 q3)(hG31:a5U C5 0 q L3 w)(hD: ¬dr.D)(hm:a1C F q0 q1 q2 q3=some r):
  Calls prog 10 #[.agg #[V3 A a b,V3 B c d],.agg #[V3 C f i,V3 D k l],.agg #[V6 q2.Kind,sv q2.Field,V3 G m n,V6 q2.From,V6 q2.To,V3 H o p],V6 q3] w fun e w'=>∃a_1 n_2 c_3 K',e= .returned (V3 a_1 n_2 c_3)∧SH w K [] w' K' [tail (V3 a_1 n_2 c_3) 39 1]∧b7 (G0 E8) K' a_1 n_2 c_3 r:=by
 rw [a1C] at hm
 refine ci func10 rfl ntmps10 (sr (bx rfl hS fun aF bL aG=>?_))
 have aH:SH _ _ _ _ _ [u9 aF [V3 A a b,V3 B c d] 26]:=aG
 refine bx rfl aH fun aI bM aJ=>?_
 have aK:SH _ _ _ _ _ [u9 aI [V3 C f i,V3 D k l] 30,_]:=aJ
 refine bx rfl aK fun aL bN aM=>?_
 have aN:SH _ _ _ _ _ [u9 aL [V6 q2.Kind,sv q2.Field,V3 G m n,V6 q2.From,V6 q2.To,V3 H o p] 33,_,_]:=aM
 refine lv (r_n rfl) (nr (a0V (G0 E8) wn rfl underlying36 a3W aN fun ae bO bP y af ag=>(av rfl (P6 (mv rfl ?_)))))
 obtain⟨bQ,aO,aP⟩:=ob hm
 refine lk a3H (C3 F ag.enter0 aE (by decide :i7 1) (by decide :i7 16) aO) ?_
 rintro bR bS ⟨aQ,rfl,s⟩
 have x:=(ag.c0 s).t4
 refine lv (A4 rfl) (nq (D4 aP rfl (fun aR aa=>?_) (fun aR aa=>?_)))
 ·refine sr (mv rfl (av rfl (nq (rr ?_))))
  cases oi aa
  exact ey results10 ⟨ae,0,0,aQ,rfl,x.s,(af.mono s.le)⟩
 refine j5 (qr (lv (n8 (ds:=[V3 A a b,V3 B c d]) E2 rfl m3 x rfl rfl) (lv (n8 (ds:=[V3 C f i,V3 D k l]) F2 rfl m2 x rfl rfl) (lv (n8 (ds:=[V6 q2.Kind,sv q2.Field,V3 G m n,V6 q2.From,V6 q2.To,V3 H o p]) C6 rfl m1 x rfl rfl) ?_))))
 obtain⟨bT,aS,aT⟩:=ob aa
 refine lk c1G (a2k F x.enter0 (ar.mono (y.trans s.le)) (au.mono (y.trans s.le)) (aw.mono (y.trans s.le)) (ax.mono (y.trans s.le)) ay az (aA.mono (y.trans s.le)) aB aC (aD.mono (y.trans s.le)) (hG31.keep x) hD aS) ?_
 rintro bU bV ⟨bW,bX,bY,bZ,rfl,ah,aU⟩
 have ai:=(x.c0 ah).t5
 obtain⟨ca,aV,aW⟩:=ob aT
 refine lk c25 (a1T F ai.enter0 aU (by decide :i7 16) aV) ?_
 rintro cb cc ⟨aX,aY,aZ,ab,rfl,aj,ac⟩
 have ba:=(ai.c0 aj).t6
 refine av rfl (P6 (lv (N4 rfl) (nq ?_)))
 obtain⟨bb,bc,bd⟩:=ob aW
 refine l6 (fun E' w'=>∃I J O R,E'=[(9,V3 I J O)]∧SH w K [] w' R [tail (V3 I J O) 39 1]∧I9 ab R∧b7 (G0 E8) R I J O bb) ?_ ?_
 ·refine j7 ?_
  obtain⟨cd,be,bf⟩:=ob bc
  have bg:=ba.sb (sd (sd (sk (sd (sd (sd sz))))))
  refine qw (fun (X:(List (List B0))×Int) E' w'=>∃S T U V,E'=[(3,V6 q3),(9,V3 S T U),(10,V3 aX aY aZ),(11,V6 X.2)]∧SH w K [] w' V [tail (V3 S T U) 39 1]∧I9 ab V∧b7 (G0 E8) V S T U X.1∧i7 X.2) be ⟨ae,0,0,ab,rfl,bg,kr,(af.mono ((s.le.trans ah.le).trans aj.le)),M1⟩ ?_
  rintro X _ ce cf bh bi ⟨S,T,U,V,rfl,ak,W,al,cg⟩
  refine p9 (sr (mv rfl (mv rfl (lv (q7 underlying39 rfl (ac.mono W)) (lv (s7 rfl rfl) (nq (D4 bh rfl (fun bj ad=>?_) (fun bj ad=>?_))))))))
  ·refine j5 (qs (j7 (j3 (mv rfl (b0 E8 underlying39 M6 ak fun ch cj ck Y bk bl=>(mv rfl (mv rfl (mv rfl (mv rfl ?_)))))))))
   refine lv (y4 rfl rfl) (mv rfl (lv (q7 underlying39 rfl (ac.mono (W.trans Y))) (lv (b5U rfl rfl) ?_)))
   obtain⟨cl,bm,bn⟩:=ob ad
   refine c2V (t:=E8) wn rfl underlying39 M6 rfl rfl rfl (ac.mono (W.trans Y)) bm fun cm cn cp bo=>?_
   obtain⟨bp,bq,br⟩:=ob bn
   refine lp underlying39 M6 bk bo bq bl fun am an ao cq cr ap bs bu=>(lb (G0 E8) (V3 am an ao) [V3 am an ao] bp underlying36 a3W ⟨_,_,_,rfl,bs⟩ bu fun cs ct cu aq bv bz=>?_)
   obtain⟨cv,bA,bB⟩:=ob br
   refine lp underlying36 a3W (al.mono ((Y.trans ap).trans aq)) bv bA bz.f2 fun bC bD bE cw bF bG bH bI=>(av rfl (nb (l4 (j3 (mv rfl (mv rfl (lv (y4 rfl rfl) (av rfl (i8 ?_)))))))))
   cases oi bB
   exact qd ⟨_,rfl,bC,bD,bE,bF,rfl,bI.s,((((W.trans Y).trans ap).trans aq).trans bG),bH,(s6 _)⟩
  refine w8 (g6 (g6 ?_))
  cases oi ad
  cases bi _ rfl
  refine l5 ?_
  cases oi bf
  exact qd ⟨S,T,U,V,rfl,ak,W,al⟩
 rintro _ cx ⟨I,J,O,R,rfl,bJ,cy,bK⟩
 refine qr (mv rfl (av rfl (nq (l3 ?_))))
 cases oi bd
 exact ey results10 ⟨I,J,O,R,rfl,bJ,bK⟩

theorem b18 {q0:B0}{q1:B0}{r:Bool}(hS:SH w K [] w K [])(q:i7 q0.Doc)(s:i7 q0.Points)(x:i7 q1.Doc)(y:i7 q1.Points)(hm:a17 F q0 q1=some r):
  Calls prog 128 #[.agg #[V6 q0.Doc,V6 q0.Points],.agg #[V6 q1.Doc,V6 q1.Points]] w (R_b w K r):=by
 rw [a17] at hm
 refine ci func128 rfl ntmps128 (sr (bx rfl hS fun i A k=>?_))
 have l:SH _ _ _ _ _ [u9 i [V6 q0.Doc,V6 q0.Points] 45]:=k
 refine bx rfl l fun m B o=>?_
 have b:SH _ _ _ _ _ [u9 m [V6 q1.Doc,V6 q1.Points] 45,_]:=o
 refine lv (P2 rfl) (nr (fl b0v rfl E4 m1 b rfl (fl b0v rfl E4 m0 b rfl (lv (F9 rfl rfl) (mv rfl (bt hm (fun a d=>?_) (fun a d=>?_)))))))
 ·iterate 6 refine lu a ?_
  refine A2 (uu rfl rfl) rfl (A2 (uu rfl rfl) rfl (A2 (uu rfl rfl) rfl (A2 (uu rfl rfl) rfl (A2 (uu rfl rfl) rfl (lu a (lv (L8 rfl a rfl) (av rfl (nq (l3 ?_)))))))))
  cases oi d
  exact ey results128 ⟨K,rfl,b.s⟩
 refine lg a (c9 b0v rfl) (lg a (u6 E4 rfl m1 b rfl) (lg a (c9 b0v rfl) (lg a (u6 E4 rfl m0 b rfl) (lg a (A6 rfl rfl) (lg a (i5 rfl) (bt d (fun c f=>?_) (fun c f=>?_)))))))
 ·refine lg c (c9 a86 rfl) (lg c (u6 E4 rfl m1 b rfl) (lg c (c9 a86 rfl) (lg c (u6 E4 rfl m0 b rfl) (lg c (s7 rfl rfl) (lg a (o0 rfl c rfl) (lv (o4 rfl a rfl) (av rfl (nq (l3 ?_)))))))))
  cases oi f
  exact ey results128 ⟨K,rfl,b.s⟩
 iterate 5 refine lu c ?_
 refine lg a (J6 rfl c rfl) (lv (o4 rfl a rfl) (av rfl (nq (l3 ?_))))
 cases oi f
 exact ey results128 ⟨K,rfl,b.s⟩

theorem a7g {q0:List B0}{q1:B0}{q2:Int}{r:(List B0)}(hS:SH w K [] w K [])(f:b7 E8 K A a b q0)(s:i7 q1.Doc)(x:i7 q1.Points)(bk:i7 q2)(hm:T4 F q0 q1 q2=some r):
  Calls prog 61 #[V3 A a b,.agg #[V6 q1.Doc,V6 q1.Points],V6 q2] w fun e w'=>∃a_1 n_2 c_3 K',e= .returned (V3 a_1 n_2 c_3)∧SH w K [] w' K' []∧b7 E8 K' a_1 n_2 c_3 r:=by
 rw [T4] at hm
 refine ci func61 rfl ntmps61 (sr (bx rfl hS fun d w9 T=>?_))
 have U:SH _ _ _ _ _ [u9 d [V6 q1.Doc,V6 q1.Points] 45]:=T
 refine lv (r_n rfl) (nr (lv (N4 rfl) (ns ?_)))
 obtain⟨y,V,W⟩:=ob hm
 refine l6 (IW w K [] K [(0,V3 A a b),(2,V6 q2),(4,pt d),(7,V6 y)] [u9 d [V6 q1.Doc,V6 q1.Points] 45] (i7 y)) ?_ ?_
 ·refine j7 ?_
  obtain⟨bm,X,Y⟩:=ob V
  refine qw (fun (i:Int)=>IW w K [] K [(0,V3 A a b),(2,V6 q2),(4,pt d),(7,V6 i)] [u9 d [V6 q1.Doc,V6 q1.Points] 45] (i7 i)) X ⟨K,rfl,U,kr,M1⟩ ?_
  rintro i _ bn bo aa ab ⟨ac,rfl,ad,k,ae⟩
  refine p9 (p9 ?_)
  obtain⟨af,ag,ah⟩:=ob aa
  refine l6 (IV w K [] ac [(0,V3 A a b),(2,V6 q2),(4,pt d),(7,V6 i),(20,.bool af)] [u9 d [V6 q1.Doc,V6 q1.Points] 45]) ?_ ?_
  ·refine E1 mixed (by kernel_rfl) ad (km rfl (km rfl (kv (q7 underlying39 rfl (f.mono k)) (kv (s7 rfl rfl) (km rfl (bt ag (fun c l=>?_) (fun c l=>?_)))))))
   ·refine kg c (i5 rfl) (kg c (i5 rfl) ?_)
    obtain⟨B,ai,aj⟩:=ob l
    refine D2 (t:=E8) (wg rfl rfl c) rfl underlying39 M6 rfl rfl (f.mono k) ai fun ak al bp am an=>?_
    obtain⟨rfl,ao,ap⟩:=am
    have aq:E9 _ ak al [V6 B.Doc,V6 B.Points]:=an
    refine kgh c (a23 M6 rfl aq rfl) (kgh c (J7 (ds:=[V6 q1.Doc,V6 q1.Points]) M6 rfl m0 rfl rfl) ?_)
    obtain⟨bq,ar,au⟩:=ob aj
    refine kcg c c5Y (fun _ _ aw br=>(b18 F) aw.enter0 ao ap s x ar) (kv (o0 rfl c rfl) (B7 ?_))
    rintro bs ⟨ax,ay,az⟩
    cases oi au
    exact qd ⟨ax,rfl,ay,az⟩
   iterate 6 refine kn c ?_
   refine kv (J6 rfl c rfl) (B7 ?_)
   rintro bu ⟨aA,aB,aC⟩
   cases oi l
   exact qd ⟨aA,rfl,aB,aC⟩
  rintro _ bv ⟨C,rfl,D,G⟩
  refine l4 (D4 ah rfl (fun aD m=>?_) (fun aD m=>?_))
  ·refine j5 (l4 (j7 (j3 (mv rfl (lv (y4 rfl rfl) (av rfl (nb ?_)))))))
   cases oi m
   exact qd ⟨_,rfl,C,rfl,D,(k.trans G),(s6 _)⟩
  refine w8 (g6 (g6 ?_))
  cases oi m
  cases ab _ rfl
  refine l5 ?_
  cases oi Y
  exact qd ⟨C,rfl,D,(k.trans G),ae⟩
 rintro _ bz ⟨bA,rfl,aE,H,bB⟩
 refine qr (b0 E8 underlying39 M6 aE fun bC bD bE I aF aG=>(mv rfl (mv rfl ?_)))
 obtain⟨bF,aH,aI⟩:=ob W
 refine a63 (t:=E8) wn rfl underlying39 M6 rfl rfl (f.mono (H.trans I)) aH fun bG bH bI aJ=>?_
 obtain⟨bJ,aK,aL⟩:=ob aI
 refine lp underlying39 M6 aF aJ aK aG fun bK bL bM bN bO aM aN J=>(av rfl (nr (mv rfl (lv (n8 (ds:=[V6 q1.Doc,V6 q1.Points]) M6 rfl m1 J rfl rfl) (lb E8 (.agg #[V6 q1.Doc,V6 q1.Points]) [V6 q1.Doc,V6 q1.Points] q1 underlying39 M6 ⟨rfl,s,x⟩ J fun bP bQ bR O aO aP=>?_)))))
 obtain⟨bS,aQ,aR⟩:=ob aL
 refine lp underlying39 M6 (aN.mono O) aO aQ aP.f1 fun bT bU bV bW bX aS aT aU=>(av rfl (nr (mv rfl (mv rfl (mv rfl ?_)))))
 obtain⟨bY,aV,aW⟩:=ob aR
 refine a64 (t:=E8) wn rfl underlying39 M6 rfl rfl (b7.mono ((((H.trans I).trans aM).trans O).trans aS) f) aV fun bZ ca cb aX=>?_
 obtain⟨cc,aY,aZ⟩:=ob aW
 refine lp underlying39 M6 aT aX aY aU fun ba bb bc cd R ce o S=>(av rfl (P6 (mv rfl (lv (q7 underlying39 rfl o) (mv rfl (lv (F9 rfl rfl) (nq (D4 aZ rfl (fun bd q=>?_) (fun bd q=>?_)))))))))
 ·refine sr (mv rfl (mv rfl ?_))
  obtain⟨cf,be,bf⟩:=ob q
  refine a63 (t:=E8) wn rfl underlying39 M6 rfl rfl o be fun bg bh bi bj=>(av rfl (nq (rr ?_)))
  cases oi bf
  exact ey results61 ⟨bg,bh,bi,R,rfl,S.s,bj⟩
 refine j5 (qr (mv rfl (av rfl (nq (l3 ?_)))))
 cases oi q
 exact ey results61 ⟨ba,bb,bc,R,rfl,S.s,o⟩

theorem b3j {q0:u5}{q1:A7}{q2:r5}{q3:Int}{r:(List B0)}(hS:SH w K [] w K [])(aj:b7 D8 K A a b q0.Stops)(ak:b7 L0 K B c d q0.Syns)(y:b7 F8 K C f i q1.Docs)(al:b7 B8 K D k l q1.Entries)(am:i7 q2.Kind)(an:q2.Field.length≤maxLen)(ao:b7 D8 K G m n q2.Words)(ap:i7 q2.From)(aq:i7 q2.To)(ar:b7 F3 K H o p q2.Kids)(az:i7 q3)(hm:a0y F q0 q1 q2 q3=some r):
  Calls prog 50 #[.agg #[V3 A a b,V3 B c d],.agg #[V3 C f i,V3 D k l],.agg #[V6 q2.Kind,sv q2.Field,V3 G m n,V6 q2.From,V6 q2.To,V3 H o p],V6 q3] w fun e w'=>∃a_1 n_2 c_3 K',e= .returned (V3 a_1 n_2 c_3)∧SH w K [] w' K' []∧b7 E8 K' a_1 n_2 c_3 r:=by
 rw [a0y] at hm
 refine ci func50 rfl ntmps50 (sr (bx rfl hS fun ab bN aA=>?_))
 have aB:SH _ _ _ _ _ [u9 ab [V3 A a b,V3 B c d] 26]:=aA
 refine bx rfl aB fun ac bO aC=>?_
 have aD:SH _ _ _ _ _ [u9 ac [V3 C f i,V3 D k l] 30,_]:=aC
 refine bx rfl aD fun ad bP aE=>?_
 have aF:SH _ _ _ _ _ [u9 ad [V6 q2.Kind,sv q2.Field,V3 G m n,V6 q2.From,V6 q2.To,V3 H o p] 33,_,_]:=aE
 refine lv (r_n rfl) (nr (b0 E8 underlying39 M6 aF fun aG bQ ae s aH aI=>(av rfl (P6 (lv (N4 rfl) (nq ?_))))))
 obtain⟨aJ,aK,aL⟩:=ob hm
 refine l6 (fun E' w'=>∃V W X I,E'=[(9,V3 V W X)]∧SH w K [] w' I []∧I9 ae I∧b7 E8 I V W X aJ) ?_ ?_
 ·refine j7 ?_
  obtain⟨bR,aM,aN⟩:=ob aK
  have aO:=aI.f1.f2.f3.sb (sk (sk (sk (sd sz))))
  refine qw (fun (Y:(List B0)×Int) E' w'=>∃J O R S,E'=[(3,V6 q3),(4,pt ab),(5,pt ac),(6,pt ad),(9,V3 J O R),(10,V6 Y.2)]∧SH w K [] w' S [u9 ab [V3 A a b,V3 B c d] 26,u9 ac [V3 C f i,V3 D k l] 30,u9 ad [V6 q2.Kind,sv q2.Field,V3 G m n,V6 q2.From,V6 q2.To,V3 H o p] 33]∧I9 ae S∧b7 E8 S J O R Y.1∧i7 Y.2) aM ⟨aG,0,0,ae,rfl,aO,kr,aH,M1⟩ ?_
  rintro Y _ bS bT aP aQ ⟨J,O,R,S,rfl,aa,q,af,bU⟩
  refine p9 (sr (mv rfl (fl S5 rfl a4l m1 aa rfl (lv (q7 underlying27 rfl (y.mono (s.trans q))) (lv (s7 rfl rfl) (nq (D4 aP rfl (fun aR ag=>?_) (fun aR ag=>?_))))))))
  ·refine j5 (qs (j7 (p9 (E1 mixed (by kernel_rfl) aa (kh (J7 (ds:=[V3 A a b,V3 B c d]) E2 rfl m0 rfl rfl) (kh (J7 (ds:=[V3 C f i,V3 D k l]) F2 rfl m1 rfl rfl) (kh (J7 (ds:=[V6 q2.Kind,sv q2.Field,V3 G m n,V6 q2.From,V6 q2.To,V3 H o p]) C6 rfl m2 rfl rfl) (kv (c9 S5 rfl) (kh (z6 a4l rfl m1 rfl) ?_)))))))))
   refine km rfl ?_
   obtain⟨aS,aT,aU⟩:=ob ag
   refine ki underlying27 F7 (y.mono (s.trans q)) aT fun aV aW bV aX aY=>?_
   obtain⟨aZ,ba,bb,bc,bd,be,rfl,au,bW,bX⟩:=aX
   have bf:E9 _ aV aW [V6 aS.Id,V3 aZ ba bb,V3 bc bd be]:=aY
   refine kv (c9 S6 rfl) (kh (B6 E4 rfl (bf 0 _ rfl)) ?_)
   obtain⟨aw,ax,bg⟩:=ob aU
   refine kd b73 (fun _ _ bh x=>(X4 F) bh.enter0 (aj.mono ((s.trans q).trans x)) (ak.mono ((s.trans q).trans x)) (y.mono ((s.trans q).trans x)) (al.mono ((s.trans q).trans x)) am an (ao.mono ((s.trans q).trans x)) ap aq (ar.mono ((s.trans q).trans x)) au ax) ?_
   obtain⟨_,_,_,⟨_,_,_,bi⟩,_⟩:=(X4 F) aa.enter0 (aj.mono (s.trans q)) (ak.mono (s.trans q)) (y.mono (s.trans q)) (al.mono (s.trans q)) am an (ao.mono (s.trans q)) ap aq (ar.mono (s.trans q)) au ax []
   refine kv (x8 rfl) (B7 ?_)
   rintro bY ⟨bj,T,U⟩
   refine qr (mv rfl (lv (F9 rfl rfl) (nq (D4 bg rfl (fun bk ah=>?_) (fun bk ah=>?_)))))
   ·refine j3 (mv rfl (fl S5 rfl a4l m1 T rfl (mv rfl ?_)))
    obtain⟨ai,bl,bm⟩:=ob ah
    refine li underlying27 F7 (y.mono ((s.trans q).trans U)) bl fun bn bo bZ bp bq=>?_
    obtain⟨br,bs,bu,bv,bz,bA,rfl,bB,ca,cb⟩:=bp
    have bC:E9 _ bn bo [V6 ai.Id,V3 br bs bu,V3 bv bz bA]:=bq
    refine fa S6 rfl (lv (y7 E4 rfl T (bC 0 _ rfl)) (mv rfl (lv (D3 (cs:=#[V6 ai.Id,V6 aw]) c5A M6 rfl (by kernel_rfl)) (mv rfl ?_))))
    obtain⟨cc,bD,bE⟩:=ob bm
    refine lk c6P ((a7g F (q1:=(B0.mk ai.Id aw))) T.enter0 (af.mono U) bB bi az bD) ?_
    rintro cd ce ⟨bF,bG,bH,bI,rfl,ay,bJ⟩
    have bK:=(T.c0 ay).t3
    refine av rfl (nb (l4 (j3 (mv rfl (lv (y4 rfl rfl) (av rfl (i8 ?_)))))))
    cases oi bE
    exact qd ⟨_,rfl,bF,bG,bH,bI,rfl,bK,((q.trans U).trans ay.le),bJ,(s6 _)⟩
   refine j5 (x9 (l4 (j3 (mv rfl (lv (y4 rfl rfl) (av rfl (i8 ?_)))))))
   cases oi ah
   exact qd ⟨_,rfl,J,O,R,bj,rfl,T,(q.trans U),(af.mono U),(s6 _)⟩
  refine w8 (g6 (g6 ?_))
  cases oi ag
  cases aQ _ rfl
  refine l5 ?_
  cases oi aN
  exact qd ⟨J,O,R,S,rfl,aa.s,q,af⟩
 rintro _ cf ⟨V,W,X,I,rfl,bL,cg,bM⟩
 refine qr (mv rfl (av rfl (nq (l3 ?_))))
 cases oi aL
 exact ey results50 ⟨V,W,X,I,rfl,bL,bM⟩

theorem a7S {q0:u5}{q1:A7}{q2:r5}{q3:Int}{r:(List (List B0))}(hS:SH w K [] w K [])(az:b7 D8 K A a b q0.Stops)(aA:b7 L0 K B c d q0.Syns)(aB:b7 F8 K C f i q1.Docs)(aC:b7 B8 K D k l q1.Entries)(aD:i7 q2.Kind)(aE:q2.Field.length≤maxLen)(aF:b7 D8 K G m n q2.Words)(aG:i7 q2.From)(aH:i7 q2.To)(aI:b7 F3 K H o p q2.Kids)(aJ:i7 q3)(hm:a1E F q0 q1 q2 q3=some r):
  Calls prog 11 #[.agg #[V3 A a b,V3 B c d],.agg #[V3 C f i,V3 D k l],.agg #[V6 q2.Kind,sv q2.Field,V3 G m n,V6 q2.From,V6 q2.To,V3 H o p],V6 q3] w fun e w'=>∃a_1 n_2 c_3 K',e= .returned (V3 a_1 n_2 c_3)∧SH w K [] w' K' [tail (V3 a_1 n_2 c_3) 39 1]∧b7 (G0 E8) K' a_1 n_2 c_3 r:=by
 rw [a1E] at hm
 refine ci func11 rfl ntmps11 (sr (bx rfl hS fun ae cr aS=>?_))
 have aT:SH _ _ _ _ _ [u9 ae [V3 A a b,V3 B c d] 26]:=aS
 refine bx rfl aT fun af cs aU=>?_
 have aV:SH _ _ _ _ _ [u9 af [V3 C f i,V3 D k l] 30,_]:=aU
 refine bx rfl aV fun ag ct aW=>?_
 have aX:SH _ _ _ _ _ [u9 ag [V6 q2.Kind,sv q2.Field,V3 G m n,V6 q2.From,V6 q2.To,V3 H o p] 33,_,_]:=aW
 refine lv (r_n rfl) (nr (a0V (G0 E8) wn rfl underlying36 a3W aX fun ah cu aY q aZ ab=>(av rfl (ns (p9 ?_)))))
 obtain⟨ba,bb,bc⟩:=ob hm
 refine l6 (IV w K [] aY [(3,V6 q3),(4,pt ae),(5,pt af),(6,pt ag),(9,V3 ah 0 0),(26,.bool ba)] [u9 ae [V3 A a b,V3 B c d] 26,u9 af [V3 C f i,V3 D k l] 30,u9 ag [V6 q2.Kind,sv q2.Field,V3 G m n,V6 q2.From,V6 q2.To,V3 H o p] 33,tail (V3 ah 0 0) 39 1]) ?_ ?_
 ·refine j3 (lv (n8 (ds:=[V3 A a b,V3 B c d]) E2 rfl m3 ab rfl rfl) (lv (n8 (ds:=[V3 C f i,V3 D k l]) F2 rfl m2 ab rfl rfl) ?_))
  obtain⟨cv,bd,be⟩:=ob bb
  refine lk c4M (a6Q F ab.enter0 (az.mono q) (aA.mono q) (aB.mono q) (aC.mono q) bd) ?_
  rintro cw cx ⟨bf,rfl,I⟩
  have ac:=(ab.c0 I).t4
  refine lv (A4 rfl) (mv rfl (bt be (fun s ai=>?_) (fun s ai=>?_)))
  ·refine lu s (lu s (lu s (lv (L8 rfl s rfl) (mv rfl (lu rfl (lu rfl (lu rfl (lv (L8 rfl rfl rfl) (i8 ?_)))))))))
   cases oi ai
   exact qd ⟨bf,rfl,ac.f1.f2.f3,I.le⟩
  refine lg s (n8 (ds:=[V6 q2.Kind,sv q2.Field,V3 G m n,V6 q2.From,V6 q2.To,V3 H o p]) C6 rfl m1 ac rfl rfl) ?_
  obtain⟨cy,bg,bh⟩:=ob ai
  refine A0 (wg rfl rfl s) rfl (z7 (vs:=[.agg #[V6 q2.Kind,sv q2.Field,V3 G m n,V6 q2.From,V6 q2.To,V3 H o p]]) c4N rfl) (a59 F ac.enter0 aD aE (aF.mono (q.trans I.le)) aG aH (aI.mono (q.trans I.le)) bg) ?_
  rintro cz cA ⟨bi,rfl,aj⟩
  refine⟨_,rfl,?_⟩
  have ak:=(ac.c0 aj).t4
  refine lg s (A4 rfl) (lv (o4 rfl s rfl) (mv rfl (bt bh (fun x al=>?_) (fun x al=>?_))))
  ·refine lu x (lu x (lu x (lv (L8 rfl x rfl) (i8 ?_))))
   cases oi al
   exact qd ⟨bi,rfl,ak.f1.f2.f3,(I.le.trans aj.le)⟩
  refine lg x (i5 rfl) ?_
  obtain⟨cB,bj,bk⟩:=ob al
  refine A0 (wg rfl rfl x) rfl (z7 (vs:=[V6 q3,V6 1,V6 16]) a5X rfl) (G5 F ak.enter0 aJ (by decide :i7 1) (by decide :i7 16) bj) ?_
  rintro cC cD ⟨bl,rfl,aK⟩
  refine⟨_,rfl,?_⟩
  have bm:=(ak.c0 aK).t4
  refine lg x (A4 rfl) (lv (o4 rfl x rfl) (i8 ?_))
  cases oi bk
  exact qd ⟨bl,rfl,bm.f1.f2.f3,((I.le.trans aj.le).trans aK.le)⟩
 rintro _ cE ⟨bn,rfl,J,y⟩
 refine l4 (D4 bc rfl (fun bo am=>?_) (fun bo am=>?_))
 ·refine sr (lv (r_n rfl) (nq (rr ?_)))
  cases oi am
  have bp:=J.nil 39 1
  exact ey results11 ⟨none,0,0,bn,rfl,bp.s,(b7.nil _ _)⟩
 refine j5 (qr (lv (n8 (ds:=[V3 A a b,V3 B c d]) E2 rfl m0 J rfl rfl) (lv (n8 (ds:=[V3 C f i,V3 D k l]) F2 rfl m1 J rfl rfl) (lv (n8 (ds:=[V6 q2.Kind,sv q2.Field,V3 G m n,V6 q2.From,V6 q2.To,V3 H o p]) C6 rfl m2 J rfl rfl) ?_))))
 obtain⟨cF,bq,br⟩:=ob am
 refine lk c7e (b3j F J.enter0 (az.mono (q.trans y)) (aA.mono (q.trans y)) (aB.mono (q.trans y)) (aC.mono (q.trans y)) aD aE (aF.mono (q.trans y)) aG aH (aI.mono (q.trans y)) (by decide :i7 16) bq) ?_
 rintro cG cH ⟨bs,bu,bv,an,rfl,aL,bz⟩
 have bA:=(J.c0 aL).t4
 refine av rfl (ns ?_)
 obtain⟨bB,bC,bD⟩:=ob br
 refine l6 (fun E' w'=>∃R S T U,E'=[(9,V3 R S T)]∧SH w K [] w' U [tail (V3 R S T) 39 1]∧I9 an U∧b7 (G0 E8) U R S T bB) ?_ ?_
 ·refine j7 ?_
  obtain⟨cI,bE,bF⟩:=ob bC
  have bG:=bA.sb (sd (sd (sd (sk sz))))
  refine qw (fun (ao:(List (List B0))×(List B0)) E' w'=>∃V W X ap aq ar O,E'=[(3,V6 q3),(9,V3 V W X),(10,V3 ap aq ar)]∧SH w K [] w' O [tail (V3 V W X) 39 1]∧I9 an O∧b7 (G0 E8) O V W X ao.1∧b7 E8 O ap aq ar ao.2) bE ⟨ah,0,0,bs,bu,bv,an,rfl,bG,kr,(aZ.mono (y.trans aL.le)),bz⟩ ?_
  rintro ao _ cJ cK bH bI ⟨V,W,X,ap,aq,ar,O,rfl,au,aM,aN,Y⟩
  refine p9 (sr (mv rfl (lv (q7 underlying39 rfl Y) (lv (F9 rfl rfl) (nq (D4 bH rfl (fun bJ aw=>?_) (fun bJ aw=>?_)))))))
  ·refine j5 (l4 (j7 (sr (mv rfl (mv rfl (lv (q7 underlying39 rfl Y) ?_))))))
   obtain⟨cL,bK,bL⟩:=ob aw
   refine lk c4O (a6c F au.enter0 aJ Y.rn bK) ?_
   rintro cM cN ⟨cO,rfl,aa,cP⟩
   have bM:=(au.c0 aa).t1
   refine av rfl (nr (mv rfl (b0 E8 underlying39 M6 bM fun cQ cR cS ad bN bO=>(mv rfl (mv rfl ?_)))))
   obtain⟨cT,bP,bQ⟩:=ob bL
   refine a63 (t:=E8) wn rfl underlying39 M6 rfl rfl (Y.mono (aa.le.trans ad)) bP fun cU cV cW bR=>?_
   obtain⟨bS,bT,bU⟩:=ob bQ
   refine lp underlying39 M6 bN bR bT bO fun aO aP aQ cX cY ax bV bW=>(lb (G0 E8) (V3 aO aP aQ) [V3 aO aP aQ] bS underlying36 a3W ⟨_,_,_,rfl,bV⟩ bW fun cZ da db ay bX bY=>?_)
   obtain⟨dc,bZ,ca⟩:=ob bU
   refine lp underlying36 a3W (b7.mono (((aa.le.trans ad).trans ax).trans ay) aN) bX bZ bY.f2 fun cb cc cd dd ce aR cf cg=>(av rfl (nq (j3 (mv rfl (mv rfl ?_)))))
   obtain⟨de,ch,cj⟩:=ob ca
   refine a64 (t:=E8) wn rfl underlying39 M6 rfl rfl (b7.mono ((((aa.le.trans ad).trans ax).trans ay).trans aR) Y) ch fun ck cl cm cn=>(av rfl (nb ?_))
   cases oi cj
   exact qd ⟨_,rfl,cb,cc,cd,ck,cl,cm,ce,rfl,cg.s,(((((aM.trans aa.le).trans ad).trans ax).trans ay).trans aR),cf,cn⟩
  refine w8 (g6 (g6 ?_))
  cases oi aw
  cases bI _ rfl
  refine l5 ?_
  cases oi bF
  exact qd ⟨V,W,X,O,rfl,au,aM,aN⟩
 rintro _ df ⟨R,S,T,U,rfl,cp,dg,cq⟩
 refine qr (mv rfl (av rfl (nq (l3 ?_))))
 cases oi bD
 exact ey results11 ⟨R,S,T,U,rfl,cp,cq⟩

theorem Y5 {q0:List B0}{q1:List B0}{r:Bool}(hS:SH w K [] w K [])(m:b7 E8 K A a b q0)(C:b7 E8 K B c d q1)(hm:O3 F q0 q1=some r):
  Calls prog 13 #[V3 A a b,V3 B c d] w (R_b w K r):=by
 rw [O3] at hm
 refine ci func13 rfl ntmps13 (sr (lv (P2 rfl) (P6 (mv rfl (lv (q7 underlying39 rfl m) (mv rfl (lv (q7 underlying39 rfl C) (lv (S7 rfl rfl) (nq ?_)))))))))
 refine P1 rfl (fun o=>?_) (fun o=>?_)
 ·have q:=Z8 o hm
  refine sr (lv (P2 rfl) (nq (rr ?_)))
  cases oi q
  exact ey results13 ⟨K,rfl,hS⟩
 have q:=Z7 o hm
 refine j5 (qs (sr (lv (N4 rfl) (nq ?_))))
 obtain⟨O,R,i⟩:=ob q
 refine l6 (IE O w K [] K [] []) ?_ ?_
 ·refine j7 ?_
  obtain⟨ap,S,D⟩:=ob R
  refine qw (fun (s:Int)=>IW w K [] K [(0,V3 A a b),(1,V3 B c d),(5,V6 s)] [] (i7 s)) S ⟨K,rfl,hS,kr,M1⟩ ?_
  rintro s _ aq ar T G ⟨U,rfl,H,f,au⟩
  refine p9 (sr (mv rfl (mv rfl (lv (q7 underlying39 rfl (m.mono f)) (lv (s7 rfl rfl) (nq (D4 T rfl (fun V x=>?_) (fun V x=>?_))))))))
  ·refine j5 (qs (j7 (p9 (E1 mixed (by kernel_rfl) H (km rfl (km rfl ?_))))))
   obtain⟨k,W,X⟩:=ob x
   refine ki underlying39 M6 (m.mono f) W fun Y aa aw ab ac=>?_
   obtain⟨rfl,ax,ay⟩:=ab
   have ad:E9 _ Y aa [V6 k.Doc,V6 k.Points]:=ac
   refine kh (a23 M6 rfl ad rfl) (km rfl (km rfl ?_))
   obtain⟨l,ae,af⟩:=ob X
   refine ki underlying39 M6 (C.mono f) ae fun ag ah az ai aj=>?_
   obtain⟨rfl,aA,aB⟩:=ai
   have ak:E9 _ ag ah [V6 l.Doc,V6 l.Points]:=aj
   refine kh (a23 M6 rfl ak rfl) (kv (c5s c6R rfl rfl (c6S k.Doc k.Points l.Doc l.Points)) (B7 ?_))
   rintro aC ⟨I,J,al⟩
   refine l4 (D4 af rfl (fun am y=>?_) (fun am y=>?_))
   ·refine sr (lv (P2 rfl) (nq (l3 (j6 (g8 (g8 ?_))))))
    cases oi y
    cases G _ rfl
    refine j6 (g8 ?_)
    cases oi D
    refine g8 ?_
    cases oi i
    exact ey results13 ⟨I,rfl,J⟩
   refine j5 (x9 (l4 (j3 (mv rfl (lv (y4 rfl rfl) (av rfl (i8 ?_)))))))
   cases oi y
   exact qd ⟨_,rfl,I,rfl,J,(f.trans al),(s6 _)⟩
  refine w8 (g6 (g6 ?_))
  cases oi x
  cases G _ rfl
  refine l5 ?_
  cases oi D
  exact H9 ⟨_,U,rfl,rfl,H,f⟩ trivial
 rintro _ aD ⟨aE,an,rfl,rfl,ao,aF⟩
 have i:=F6 i
 refine qr (lv (r_t rfl) (nq (l3 ?_)))
 cases oi i
 exact ey results13 ⟨an,rfl,ao⟩

theorem a57 {q0:u5}{q1:A7}{q2:r5}{q3:Int}{r:(List B0)}(hS:SH w K [] w K [])(R:b7 D8 K A a b q0.Stops)(S:b7 L0 K B c d q0.Syns)(T:b7 F8 K C f i q1.Docs)(U:b7 B8 K D k l q1.Entries)(V:i7 q2.Kind)(W:q2.Field.length≤maxLen)(X:b7 D8 K G m n q2.Words)(Y:i7 q2.From)(aa:i7 q2.To)(ab:b7 F3 K H o p q2.Kids)(I:i7 q3)(hG31:a5U C5 0 q L3 w)(hD: ¬dr.D)(hm:a02 F q0 q1 q2 q3=some r):
  Calls prog 14 #[.agg #[V3 A a b,V3 B c d],.agg #[V3 C f i,V3 D k l],.agg #[V6 q2.Kind,sv q2.Field,V3 G m n,V6 q2.From,V6 q2.To,V3 H o p],V6 q3] w fun e w'=>∃a_1 n_2 c_3 K',e= .returned (V3 a_1 n_2 c_3)∧SH w K [] w' K' [tail (V3 a_1 n_2 c_3) 45 2]∧b7 E8 K' a_1 n_2 c_3 r:=by
 rw [a02] at hm
 refine ci func14 rfl ntmps14 (sr (bx rfl hS fun ac aH ad=>?_))
 have ae:SH _ _ _ _ _ [u9 ac [V3 A a b,V3 B c d] 26]:=ad
 refine bx rfl ae fun af aI ag=>?_
 have ah:SH _ _ _ _ _ [u9 af [V3 C f i,V3 D k l] 30,_]:=ag
 refine bx rfl ah fun ai aJ aj=>?_
 have J:SH _ _ _ _ _ [u9 ai [V6 q2.Kind,sv q2.Field,V3 G m n,V6 q2.From,V6 q2.To,V3 H o p] 33,_,_]:=aj
 refine lv (r_n rfl) (P6 (mv rfl ?_))
 obtain⟨aK,ak,al⟩:=ob hm
 refine lk a3H (C3 F J.enter0 I (by decide :i7 1) (by decide :i7 16) ak) ?_
 rintro aL aM ⟨aN,rfl,s⟩
 have x:=(J.c0 s).t3
 refine lv (A4 rfl) (nq (D4 al rfl (fun am y=>?_) (fun am y=>?_)))
 ·refine sr (b0 E8 underlying39 M6 x fun an aO ao aP ap aq=>(av rfl (nq (rr ?_))))
  cases oi y
  exact ey results14 ⟨an,0,0,ao,rfl,aq.s,ap⟩
 refine j5 (qr (lv (n8 (ds:=[V3 A a b,V3 B c d]) E2 rfl m2 x rfl rfl) (lv (n8 (ds:=[V3 C f i,V3 D k l]) F2 rfl m1 x rfl rfl) (lv (n8 (ds:=[V6 q2.Kind,sv q2.Field,V3 G m n,V6 q2.From,V6 q2.To,V3 H o p]) C6 rfl m0 x rfl rfl) ?_))))
 obtain⟨aQ,ar,au⟩:=ob y
 refine lk c1G (a2k F x.enter0 (R.mono s.le) (S.mono s.le) (T.mono s.le) (U.mono s.le) V W (X.mono s.le) Y aa (ab.mono s.le) (hG31.keep x) hD ar) ?_
 rintro aR aS ⟨aT,aU,aV,aW,rfl,aw,ax⟩
 have O:=(x.c0 aw).t4
 refine mv rfl ?_
 obtain⟨aX,ay,az⟩:=ob au
 refine lk c25 (a1T F O.enter0 ax I ay) ?_
 rintro aY aZ ⟨aA,aB,aC,aD,rfl,aE,aF⟩
 have aG:=(O.c0 aE).t5
 refine av rfl (nq (l3 ?_))
 cases oi az
 exact ey results14 ⟨aA,aB,aC,aD,rfl,aG.s,aF⟩
end Go.Proofs.YtepcfgnicnibnaaGreatDoor
