/-
 Walks of the functions. Printed by gen.py.
-/
import Derived.Test.YtnloenhmkdpgeaaGreatDoorModelLTopOf
import Derived.Test.YtnloenhmkdpgeaaGreatDoorWalkA0
import Derived.Test.YtnloenhmkdpgeaaGreatDoorWalkA4
import Derived.Test.YtnloenhmkdpgeaaGreatDoorWalkFT
set_option linter.unusedVariables false
set_option linter.unusedSectionVars false
set_option maxRecDepth 100000
namespace Go.Proofs.YtnloenhmkdpgeaaGreatDoor
set_option maxHeartbeats 4000000
open Go Go.Fk Go.RowKit Tryz
variable (F:Nat){w:World}{K:F9}{Z:List Nat}{g1 g2 g3:Nat}{A B C D G H I J O R S T:Option Addr}{a b c d f i k l m n o p q s v x y aa ab ac ad ae af ag:Nat}
variable [dr:Dr]

theorem b2C {q0:E3}{q1:E3}{r:Bool}(hS:SH w K [] w K [])(q:i7 q0.Doc)(s:i7 q0.Points)(x:i7 q1.Doc)(y:i7 q1.Points)(hm:a2I F q0 q1=some r):
  Calls prog 50 #[.agg #[V6 q0.Doc,V6 q0.Points],.agg #[V6 q1.Doc,V6 q1.Points]] w (R_b w K r):=by
 rw [a2I] at hm
 refine ci func50 rfl ntmps50 (sr (bx rfl hS fun i A k=>?_))
 have l:SH _ _ _ _ _ [s7 i [V6 q0.Doc,V6 q0.Points] 71]:=k
 refine bx rfl l fun m B o=>?_
 have b:SH _ _ _ _ _ [s7 m [V6 q1.Doc,V6 q1.Points] 71,_]:=o
 refine lv (O6 rfl) (nr (fl a4O rfl E6 m1 b rfl (fl a4O rfl E6 m0 b rfl (lv (E7 rfl rfl) (mv rfl (bt hm (fun a d=>?_) (fun a d=>?_)))))))
 ·iterate 6 refine lu a ?_
  refine A8 (uu rfl rfl) rfl (A8 (uu rfl rfl) rfl (A8 (uu rfl rfl) rfl (A8 (uu rfl rfl) rfl (A8 (uu rfl rfl) rfl (lu a (lv (J6 rfl a rfl) (av rfl (nq (j9 ?_)))))))))
  cases oi d
  exact ey results50 ⟨K,rfl,b.s⟩
 refine lg a (c7 a4O rfl) (lg a (w8 E6 rfl m1 b rfl) (lg a (c7 a4O rfl) (lg a (w8 E6 rfl m0 b rfl) (lg a (A9 rfl rfl) (lg a (i5 rfl) (bt d (fun c f=>?_) (fun c f=>?_)))))))
 ·refine lg c (c7 a4N rfl) (lg c (w8 E6 rfl m1 b rfl) (lg c (c7 a4N rfl) (lg c (w8 E6 rfl m0 b rfl) (lg c (u7 rfl rfl) (lg a (n9 rfl c rfl) (lv (l9 rfl a rfl) (av rfl (nq (j9 ?_)))))))))
  cases oi f
  exact ey results50 ⟨K,rfl,b.s⟩
 iterate 5 refine lu c ?_
 refine lg a (L8 rfl c rfl) (lv (l9 rfl a rfl) (av rfl (nq (j9 ?_))))
 cases oi f
 exact ey results50 ⟨K,rfl,b.s⟩

theorem b1x {q0:E3}{q1:Int}{r:Bool}(hS:SH w K Z w K [s7 g3 [V6 q1] 3])(d:i7 q0.Doc)(f:i7 q0.Points)(i:i7 q1)(hm:a14 F q0 q1=some r):
  Calls prog 146 #[.agg #[V6 q0.Doc,V6 q0.Points],.pointer (some ⟨g3,0,none⟩)] w fun e w'=>∃K',e= .returned (.bool r)∧SH w K Z w' K' [s7 g3 [V6 q1] 3]:=by
 rw [a14] at hm
 refine ci func146 rfl ntmps146 (sr (bx rfl hS fun b k c=>?_))
 have a:SH _ _ _ _ _ [s7 b [V6 q0.Doc,V6 q0.Points] 71,_]:=c
 refine lv (O6 rfl) (nr (fl a4N rfl E6 m0 a rfl (lv (w8 E6 rfl m1 a rfl) (lv (A9 rfl rfl) (av rfl (nq (j9 ?_)))))))
 cases oi hm
 exact ey results146 ⟨K,rfl,a.s⟩

theorem a27 {q0:List E3}{q1c0:Int}{r:Int}(hS:SH w K Z w K [s7 c [V6 q1c0] 3])(f:b7 Q0 K A a b q0)(D:i7 q1c0)(hm:L5 F q0 q1c0=some r):
  Calls prog 182 #[V3 A a b,.func (.func 146) #[] #[.pointer (some ⟨c,0,none⟩)]] w fun e w'=>∃K',e= .returned (V6 r)∧SH w K Z w' K' [s7 c [V6 q1c0] 3]∧i7 r:=by
 rw [L5] at hm
 refine ci func182 rfl ntmps182 (sr (lv (N2 rfl) (O7 (mv rfl (lv (q9 underlying57 rfl f) (lv (r_m rfl) (nq ?_)))))))
 obtain⟨G,H,i⟩:=ob hm
 refine l4 (IE G w K Z K [] [s7 c [V6 q1c0] 3]) ?_ ?_
 ·refine j7 ?_
  obtain⟨ai,I,o⟩:=ob H
  refine qf (fun (q:Nat) (s:Unit)=>IV w K Z K [(0,V3 A a b),(1,.func (.func 146) #[] #[pt c]),(7,V6 (q0.length:Int)),(8,V6 ((q:Nat):Int))] [s7 c [V6 q1c0] 3]) I ⟨K,rfl,hS,kr⟩ ?_ ?_
  ·rintro q s _ J aj hi25 O R ⟨x,rfl,d,k⟩
   refine sr (lv (u7 rfl rfl) (ns (C9 rfl (b8 (by omega)) (j3 (l5 (o4 (j7 (sr (mv rfl (av rfl (nr (mv rfl ?_))))))))))))
   refine mv rfl (mv rfl ?_)
   obtain⟨l,S,T⟩:=ob O
   refine li underlying57 Q2 (f.mono k) S fun U V ak W X=>?_
   obtain⟨rfl,Y,aa⟩:=W
   have ab:F1 _ U V [V6 l.Doc,V6 l.Points]:=X
   refine lv (F3 Q2 rfl d ab rfl) ?_
   obtain⟨al,ac,ad⟩:=ob T
   refine A3 wn rfl (b0W (vs:=[.agg #[V6 l.Doc,V6 l.Points]]) (cap:=#[pt c]) c5O rfl rfl) (b1x F d.e1 Y aa D ac) ?_
   rintro am an ⟨y,rfl,B⟩
   refine⟨_,rfl,?_⟩
   have C:=(d.c1 B).t1
   refine nq (D5 ad rfl (fun ae m=>?_) (fun ae m=>?_))
   ·refine sr (mv rfl (av rfl (nq (j9 (i9 (c9 (c9 ?_)))))))
    cases oi m
    cases R _ rfl
    refine i9 (c9 ?_)
    cases oi o
    refine c9 ?_
    cases oi i
    exact ey results182 ⟨y,rfl,C,(b28 hi25 (b7.max f))⟩
   refine j3 (x8 (qg (lv (B6 rfl rfl (C6 hi25 (b7.max f))) (mv rfl (i8 ?_)))))
   cases oi m
   exact qd ⟨_,rfl,y,rfl,C,(k.trans B.le)⟩
  rintro s _ J af ⟨x,rfl,d,k⟩
  subst af
  refine sr (lv (u7 rfl rfl) (ns (C8 rfl (c6 (by omega)) (y4 (g8 (g8 (l6 ?_)))))))
  cases oi o
  exact L6 ⟨_,x,rfl,rfl,d,k⟩ trivial
 rintro _ ao ⟨ap,ag,rfl,rfl,ah,aq⟩
 have i:=E9 i
 refine qr (lv (u9 (v:=V6 (-1)) rfl) (nq (j9 ?_)))
 cases oi i
 exact ey results182 ⟨ag,rfl,ah,(by decide :i7 (-1))⟩

theorem a2e {q0:List E3}{q1c0:Int}{r:Bool}(hS:SH w K Z w K [s7 c [V6 q1c0] 3])(d:b7 Q0 K A a b q0)(f:i7 q1c0)(hm:I8 F q0 q1c0=some r):
  Calls prog 145 #[V3 A a b,.func (.func 146) #[] #[.pointer (some ⟨c,0,none⟩)]] w fun e w'=>∃K',e= .returned (.bool r)∧SH w K Z w' K' [s7 c [V6 q1c0] 3]:=by
 rw [I8] at hm
 refine ci func145 rfl ntmps145 (sr (lv (O6 rfl) (nr (mv rfl (mv rfl ?_)))))
 obtain⟨q,i,k⟩:=ob hm
 refine lk c6b (a27 F hS.e1 d f i) ?_
 rintro s x ⟨l,rfl,m,y⟩
 have o:=(hS.c1 m).t1
 refine lv (a3B rfl rfl) (av rfl (nq (j9 ?_)))
 cases oi k
 exact ey results145 ⟨l,rfl,o⟩

theorem b3K {q0:List E3}{q1:Int}{r:Bool}(hS:SH w K [] w K [])(f:b7 Q0 K A a b q0)(i:i7 q1)(hm:a3G F q0 q1=some r):
  Calls prog 103 #[V3 A a b,V6 q1] w (R_b w K r):=by
 rw [a3G] at hm
 refine ci func103 rfl ntmps103 (sr (bx rfl hS fun c x k=>?_))
 have d:SH _ _ _ _ _ [s7 c [V6 q1] 3]:=k
 refine lv (O6 rfl) (nr (mv rfl (lv (b2e (vs:=[pt c]) rfl) ?_)))
 obtain⟨y,l,m⟩:=ob hm
 refine lk c5N (a2e F d.e1 f i l) ?_
 rintro B C ⟨o,rfl,q⟩
 have s:=(d.c1 q).t1
 refine av rfl (nq (j9 ?_))
 cases oi m
 exact ey results103 ⟨o,rfl,s.s⟩

theorem b3J {q0:List E3}{r:Bool}(hS:SH w K [] w K [])(k:b7 Q0 K A a b q0)(hm:a3F F q0=some r):
  Calls prog 51 #[V3 A a b] w (R_b w K r):=by
 rw [a3F] at hm
 refine ci func51 rfl ntmps51 (sr (lv (O6 rfl) (O7 (mv rfl (lv (q9 underlying57 rfl k) (lv (r_m rfl) (nq ?_)))))))
 obtain⟨Y,h6,o⟩:=ob hm
 refine l4 (IE Y w K [] K [(0,V3 A a b)] []) ?_ ?_
 ·refine j7 ?_
  obtain⟨bk,ab,I⟩:=ob h6
  refine qf (fun (x:Nat) (J:Unit)=>IV w K [] K [(0,V3 A a b),(5,V3 A a b),(6,V6 (q0.length:Int)),(7,V6 ((x:Nat):Int))] []) ab ⟨K,rfl,hS,kr⟩ ?_ ?_
  ·rintro x J _ ac bl hi23 ad ae ⟨y,rfl,q,l⟩
   refine sr (lv (u7 rfl rfl) (ns (C9 rfl (b8 (by omega)) (j3 (l5 (o4 (j7 (sr (mv rfl ?_)))))))))
   obtain⟨m,af,ag⟩:=ob ad
   refine li underlying57 Q2 (k.mono l) af fun ah ai bm aj ak=>?_
   obtain⟨rfl,s,O⟩:=aj
   have am:F1 _ ah ai [V6 m.Doc,V6 m.Points]:=ak
   refine lv (F3 Q2 rfl q am rfl) (al Q2 q fun an bn ao=>?_)
   have ap:SH _ _ _ _ _ [s7 an [V6 0,V6 0] 71]:=ao
   refine av rfl (lw [V6 m.Doc,V6 m.Points] Q2 ap fun bo R=>(ns ?_))
   obtain⟨aq,ar,au⟩:=ob ag
   refine l4 (IV w K [] y [(0,V3 A a b),(5,V3 A a b),(6,V6 (q0.length:Int)),(7,V6 ((x:Nat):Int)),(42,.bool aq)] []) ?_ ?_
   ·refine D4 mixed (by kernel_rfl) R (kv (c7 a4N rfl) (kh (z6 E6 rfl m0 rfl) ?_))
    obtain⟨bp,aw,ax⟩:=ob ar
    refine kc a5x (fun _ _ ay bq=>(E2 F) ay.enter0 s (by decide :i7 1) (by decide :i7 9999) aw) (kv (A4 rfl) (km rfl (bt ax (fun i B=>?_) (fun i B=>?_))))
    ·refine kn i (kn i (kn i (kv (J6 rfl i rfl) (km rfl ?_))))
     iterate 6 refine qv rfl rfl rfl rfl ?_
     refine kv (J6 rfl rfl rfl) (km rfl (qv rfl rfl rfl rfl (qv rfl rfl rfl rfl (qv rfl rfl rfl rfl ?_))))
     iterate 8 refine ku ?_
     refine qv rfl rfl rfl rfl (kv (J6 rfl rfl rfl) (B4 ?_))
     rintro br ⟨az,aA,aB⟩
     cases oi B
     exact qd ⟨az,rfl,aA.s,aB⟩
    refine kg i (c7 a4O rfl) (kgh i (z6 E6 rfl m0 rfl) (kg i (u7 rfl rfl) (kv (l9 rfl i rfl) (km rfl (bt B (fun f C=>?_) (fun f C=>?_))))))
    ·iterate 6 refine kn f ?_
     refine kv (J6 rfl f rfl) (km rfl (qv rfl rfl rfl rfl (qv rfl rfl rfl rfl (qv rfl rfl rfl rfl ?_))))
     iterate 8 refine ku ?_
     refine qv rfl rfl rfl rfl (kv (J6 rfl rfl rfl) (B4 ?_))
     rintro bs ⟨aC,aD,aE⟩
     cases oi C
     exact qd ⟨aC,rfl,aD.s,aE⟩
    refine kg f (i5 rfl) (kg f (i5 rfl) ?_)
    obtain⟨bu,aF,aG⟩:=ob C
    refine c3J (t:=Q0) (wg rfl rfl f) rfl underlying57 Q2 rfl rfl (k.mono l) aF fun bv bx bz aH=>(kg f (c7 a4N rfl) (kgh f (z6 E6 rfl m0 rfl) ?_))
    obtain⟨bA,aI,aJ⟩:=ob aG
    refine kcg f c5o (fun _ _ aK aL=>(b3K F) aK.enter0 (aH.mono aL) s aI) (kv (l9 rfl f rfl) (km rfl (bt aJ (fun c D=>?_) (fun c D=>?_))))
    ·refine kn c (kn c (kn c ?_))
     iterate 8 refine ku ?_
     refine kn c (kv (J6 rfl c rfl) (B4 ?_))
     rintro bB ⟨aM,aN,aO⟩
     cases oi D
     exact qd ⟨aM,rfl,aN.s,aO⟩
    refine kg c (i5 rfl) (kg c (E7 rfl rfl) (kg c (i5 rfl) (bt D (fun d G=>?_) (fun d G=>?_))))
    ·refine kg d (i5 rfl) (kg d (i5 rfl) (kg d (I6 rfl rfl) ?_))
     obtain⟨S,aP,aQ⟩:=ob G
     refine C7 (t:=Q0) (wg rfl rfl d) rfl underlying57 Q2 rfl rfl (k.mono l) aP fun aR aS bC aT aU=>?_
     obtain⟨rfl,T,U⟩:=aT
     have aV:F1 _ aR aS [V6 S.Doc,V6 S.Points]:=aU
     refine kgh d (a1C Q2 rfl aV rfl) (kgh d (D8 (ds:=[V6 m.Doc,V6 m.Points]) Q2 rfl m0 rfl rfl) ?_)
     obtain⟨bD,V,aW⟩:=ob aQ
     refine kdg d c5p (fun _ _ aX bE=>(a4U F) aX.enter0 T U s O V) ?_
     obtain⟨_,_,_,⟨_,_,_,bF⟩,_⟩:=(a4U F) R.enter0 T U s O V []
     refine kg d (a3B rfl rfl) (kg c (n9 rfl d rfl) (kv (l9 rfl c rfl) (B4 ?_)))
     rintro bG ⟨aY,aZ,ba⟩
     cases oi aW
     exact qd ⟨aY,rfl,aZ.s,ba⟩
    iterate 8 refine kn d ?_
    refine kg c (L8 rfl d rfl) (kv (l9 rfl c rfl) (B4 ?_))
    rintro bH ⟨bb,bc,bd⟩
    cases oi G
    exact qd ⟨bb,rfl,bc.s,bd⟩
   rintro _ bI ⟨W,rfl,X,be⟩
   refine l5 (D5 au rfl (fun bf H=>?_) (fun bf H=>?_))
   ·refine sr (lv (O6 rfl) (nq (j9 (i9 (c9 (c9 ?_))))))
    cases oi H
    cases ae _ rfl
    refine i9 (c9 ?_)
    cases oi I
    refine c9 ?_
    cases oi o
    exact ey results51 ⟨W,rfl,X⟩
   refine j3 (x8 (qg (lv (B6 rfl rfl (C6 hi23 (b7.max k))) (mv rfl (i8 ?_)))))
   cases oi H
   exact qd ⟨_,rfl,W,rfl,X,(l.trans be)⟩
  rintro J _ ac bg ⟨y,rfl,q,l⟩
  subst bg
  refine sr (lv (u7 rfl rfl) (ns (C8 rfl (c6 (by omega)) (y4 (g8 (g8 (l6 ?_)))))))
  cases oi I
  exact qd ⟨_,y,rfl,rfl,q,l⟩
 rintro _ bJ ⟨s8,K9,rfl,rfl,bi,bj⟩
 have o:=E9 o
 refine qr (mv rfl (lv (q9 underlying57 rfl (k.mono bj)) (lv (V2 rfl rfl) (av rfl (nq (j9 ?_))))))
 cases oi o
 exact ey results51 ⟨K9,rfl,bi⟩

theorem b2B {q0:List UInt8}{r:Bool}(hS:SH w K [] w K [])(bG:b7 tU8 K A a b q0)(hG6:a4i y6 1 c G8 w)(hD: ¬dr.D)(hm:a4m F q0=some r):
  Calls prog 12 #[V3 A a b] w (R_b w K r):=by
 rw [a4m] at hm
 refine ci func12 rfl ntmps12 (sr (lv (O6 rfl) (O7 (mv rfl (lv (q9 underlying22 rfl bG) (lv (E7 rfl rfl) (nq (R9 rfl (fun be=>?_) (fun be=>?_)))))))))
 ·have h8:=a1a be hm
  refine sr (lv (r_t rfl) (nq (rr ?_)))
  cases oi h8
  exact ey results12 ⟨K,rfl,hS⟩
 have h8:=a09 be hm
 refine j3 (qr (mv rfl ?_))
 obtain⟨d,cc,cd⟩:=ob h8
 refine lk c1G (a0V F hS.enter0 bG cc) ?_
 rintro eE eF ⟨m,o,q,s,x,y,B,C,D,G,H,I,U,V,W,X,Y,aa,eG,rfl,ce,aq,ar,au,aw,aB,aC,aD,aE,aF,aG,bg⟩
 have cf:=(hS.c0 ce).t5
 refine mv rfl (lv (y3 rfl rfl) (lv (y3 rfl rfl) (lv (y3 rfl rfl) (lv (y3 rfl rfl) (al B9 cf fun J eH cg=>?_)))))
 have ch:SH _ _ _ _ _ [s7 J [V3 none 0 0,V3 none 0 0] 26,_,_,_,_,_]:=cg
 refine al C4 ch fun O eI cj=>?_
 have ck:SH _ _ _ _ _ [s7 O [V3 none 0 0,V3 none 0 0] 30,_,_,_,_,_,_]:=cj
 refine al B1 ck fun R eJ cl=>?_
 have cm:SH _ _ _ _ _ [s7 R [V6 0,sv [],V3 none 0 0,V6 0,V6 0,V3 none 0 0] 35,_,_,_,_,_,_,_]:=cl
 refine lw [V3 m o q,V3 s x y] B9 cm.f2 fun eK cn=>(lw [V3 B C D,V3 G H I] C4 cn.f2 fun eL cp=>(lw [V6 d.2.2.1.Kind,sv d.2.2.1.Field,V3 U V W,V6 d.2.2.1.From,V6 d.2.2.1.To,V3 X Y aa] B1 cp.f2 fun eM aH=>(av rfl (nr (lv (j6 (ds:=[V3 m o q,V3 s x y]) B9 rfl m2 aH rfl rfl) (lv (j6 (ds:=[V3 B C D,V3 G H I]) C4 rfl m1 aH rfl rfl) (lv (j6 (ds:=[V6 d.2.2.1.Kind,sv d.2.2.1.Field,V3 U V W,V6 d.2.2.1.From,V6 d.2.2.1.To,V3 X Y aa]) B1 rfl m0 aH rfl rfl) (mv rfl ?_))))))))
 obtain⟨eN,cq,cr⟩:=ob cd
 refine lk b6y (a0b F aH.enter0 aq ar au aw aB aC aD aE aF aG bg (hG6.keep aH) hD cq) ?_
 rintro eO eP ⟨am,an,ao,ct,rfl,f,ag⟩
 have aM:=(aH.c0 f).t9
 refine av rfl (ns (o4 ?_))
 obtain⟨cu,cv,cw⟩:=ob cr
 refine l4 (IV w K [] ct [(3,pt J),(4,pt O),(5,pt R),(6,V6 d.2.2.2),(7,V3 am an ao),(50,.bool cu)] [s7 J [V3 m o q,V3 s x y] 26,s7 O [V3 B C D,V3 G H I] 30,s7 R [V6 d.2.2.1.Kind,sv d.2.2.1.Field,V3 U V W,V6 d.2.2.1.From,V6 d.2.2.1.To,V3 X Y aa] 35]) ?_ ?_
 ·refine j5 (mv rfl (lv (j6 (ds:=[V3 m o q,V3 s x y]) B9 rfl m3 aM rfl rfl) (lv (j6 (ds:=[V3 B C D,V3 G H I]) C4 rfl m2 aM rfl rfl) (lv (j6 (ds:=[V6 d.2.2.1.Kind,sv d.2.2.1.Field,V3 U V W,V6 d.2.2.1.From,V6 d.2.2.1.To,V3 X Y aa]) B1 rfl m1 aM rfl rfl) (mv rfl ?_)))))
  obtain⟨eQ,cx,cy⟩:=ob cv
  refine lk b6A (a0c F aM.enter0 (aq.mono f.le) (ar.mono f.le) (au.mono f.le) (aw.mono f.le) aB aC (aD.mono f.le) aE aF (aG.mono f.le) bg cx) ?_
  rintro eR eS ⟨eT,eU,eV,eW,rfl,ah,cz⟩
  have bH:=(aM.c0 ah).t9
  obtain⟨eX,cA,cB⟩:=ob cy
  refine lk b4A (R1 F bH.enter0 (ag.mono ah.le) cz cA) ?_
  rintro eY eZ ⟨cC,rfl,aj⟩
  have aN:=(bH.c0 aj).t9
  refine lv (A4 rfl) (mv rfl (bt cB (fun ac bh=>?_) (fun ac bh=>?_)))
  ·refine lu ac (lu ac (lu ac (lu ac (lv (J6 rfl ac rfl) (mv rfl (lu rfl (lu rfl (lv (J6 rfl rfl rfl) (mv rfl ?_)))))))))
   refine lu rfl (lu rfl (lv (J6 rfl rfl rfl) (i8 ?_)))
   cases oi bh
   exact qd ⟨cC,rfl,aN.f1.f2.f3.s,(ah.le.trans aj.le)⟩
  refine lg ac (j6 (ds:=[V3 m o q,V3 s x y]) B9 rfl m3 aN rfl rfl) (lg ac (j6 (ds:=[V3 B C D,V3 G H I]) C4 rfl m2 aN rfl rfl) ?_)
  obtain⟨fb,cD,cE⟩:=ob bh
  refine A3 (wg rfl rfl ac) rfl (A2 (vs:=[.agg #[V3 m o q,V3 s x y],.agg #[V3 B C D,V3 G H I]]) a9k rfl) (J1 F aN.enter0 (aq.mono ((f.le.trans ah.le).trans aj.le)) (ar.mono ((f.le.trans ah.le).trans aj.le)) (au.mono ((f.le.trans ah.le).trans aj.le)) (aw.mono ((f.le.trans ah.le).trans aj.le)) cD) ?_
  rintro fc fd ⟨bi,rfl,aX⟩
  refine⟨_,rfl,?_⟩
  have bj:=(aN.c0 aX).t9
  refine lg ac (A4 rfl) (lv (l9 rfl ac rfl) (mv rfl (bt cE (fun ax bk=>?_) (fun ax bk=>?_))))
  ·refine lu ax (lu ax (lv (J6 rfl ax rfl) (mv rfl (lu rfl (lu rfl (lv (J6 rfl rfl rfl) (i8 ?_)))))))
   cases oi bk
   exact qd ⟨bi,rfl,bj.f1.f2.f3.s,((ah.le.trans aj.le).trans aX.le)⟩
  refine lg ax (i5 rfl) (lg ax (u7 rfl rfl) (lv (l9 rfl ax rfl) (mv rfl (bt bk (fun ay bl=>?_) (fun ay bl=>?_)))))
  ·refine lu ay (lu ay (lv (J6 rfl ay rfl) (i8 ?_)))
   cases oi bl
   exact qd ⟨bi,rfl,bj.f1.f2.f3.s,((ah.le.trans aj.le).trans aX.le)⟩
  refine lg ay (i5 rfl) (lg ay (E7 rfl rfl) (lv (l9 rfl ay rfl) (i8 ?_)))
  cases oi bl
  exact qd ⟨bi,rfl,bj.f1.f2.f3.s,((ah.le.trans aj.le).trans aX.le)⟩
 rintro _ fe ⟨fg,rfl,ad,i⟩
 refine l5 (D5 cw rfl (fun cF bm=>?_) (fun cF bm=>?_))
 ·refine sr (mv rfl (lv (j6 (ds:=[V3 m o q,V3 s x y]) B9 rfl m0 ad rfl rfl) (lv (j6 (ds:=[V3 B C D,V3 G H I]) C4 rfl m1 ad rfl rfl) (lv (j6 (ds:=[V6 d.2.2.1.Kind,sv d.2.2.1.Field,V3 U V W,V6 d.2.2.1.From,V6 d.2.2.1.To,V3 X Y aa]) B1 rfl m2 ad rfl rfl) (mv rfl ?_)))))
  obtain⟨fh,cG,cH⟩:=ob bm
  refine lk b6A (a0c F ad.enter0 (aq.mono (f.le.trans i)) (ar.mono (f.le.trans i)) (au.mono (f.le.trans i)) (aw.mono (f.le.trans i)) aB aC (aD.mono (f.le.trans i)) aE aF (aG.mono (f.le.trans i)) bg cG) ?_
  rintro fi fj ⟨fk,fm,fn,fo,rfl,bI,cI⟩
  have bJ:=(ad.c0 bI).t3
  obtain⟨fp,cJ,cK⟩:=ob cH
  refine lk b4A (R1 F bJ.enter0 (ag.mono (i.trans bI.le)) cI cJ) ?_
  rintro fq fr ⟨cL,rfl,cM⟩
  have cN:=(bJ.c0 cM).t3
  refine av rfl (nq (rr ?_))
  cases oi cK
  exact ey results12 ⟨cL,rfl,cN.s⟩
 refine j3 (qr (lv (j6 (ds:=[V3 m o q,V3 s x y]) B9 rfl m0 ad rfl rfl) (lv (j6 (ds:=[V3 B C D,V3 G H I]) C4 rfl m1 ad rfl rfl) (lv (j6 (ds:=[V6 d.2.2.1.Kind,sv d.2.2.1.Field,V3 U V W,V6 d.2.2.1.From,V6 d.2.2.1.To,V3 X Y aa]) B1 rfl m2 ad rfl rfl) ?_))))
 obtain⟨fs,cO,cP⟩:=ob bm
 refine lk b6z (U2 F ad.enter0 (aq.mono (f.le.trans i)) (ar.mono (f.le.trans i)) (au.mono (f.le.trans i)) (aw.mono (f.le.trans i)) aB aC (aD.mono (f.le.trans i)) aE aF (aG.mono (f.le.trans i)) (hG6.keep ad) hD cO) ?_
 rintro ft fu ⟨aI,aJ,aK,bn,rfl,l,bo⟩
 have cQ:=(ad.c0 l).t4
 refine av rfl (nr (lv (N2 rfl) (O7 (lv (N2 rfl) (nq ?_)))))
 obtain⟨cR,cS,aY⟩:=ob cP
 refine l4 (fun E' w'=>∃aZ bp,cR= .inl aZ∧E'=[(6,V6 d.2.2.2),(7,V3 am an ao),(9,V6 aZ)]∧SH w K [] w' bp []∧M0 bn bp∧i7 aZ) ?_ ?_
 ·refine j7 ?_
  obtain⟨fv,cT,bK⟩:=ob cS
  have cU:=cQ.sb (sd (sk (sk (sk sz))))
  refine qw (fun (T:Int×Int)=>IW w K [] bn [(3,pt J),(4,pt O),(5,pt R),(6,V6 d.2.2.2),(7,V3 am an ao),(8,V3 aI aJ aK),(9,V6 T.1),(10,V6 T.2)] [s7 J [V3 m o q,V3 s x y] 26,s7 O [V3 B C D,V3 G H I] 30,s7 R [V6 d.2.2.1.Kind,sv d.2.2.1.Field,V3 U V W,V6 d.2.2.1.From,V6 d.2.2.1.To,V3 X Y aa] 35] (i7 T.1∧i7 T.2)) cT ⟨bn,rfl,cU,kr,I5,I5⟩ ?_
  rintro T _ fw fx cV bL ⟨bq,rfl,bM,k,bN,fy⟩
  refine o4 (sr (mv rfl (mv rfl (lv (q9 underlying46 rfl (bo.mono k)) (lv (u7 rfl rfl) (nq (D5 cV rfl (fun cW br=>?_) (fun cW br=>?_))))))))
  ·refine j3 (qs (j7 (o4 ?_)))
   obtain⟨S,cX,cY⟩:=ob br
   refine l4 (fun E' w'=>∃ak aL,E'=[(3,pt J),(4,pt O),(5,pt R),(6,V6 d.2.2.2),(7,V3 am an ao),(8,V3 aI aJ aK),(9,V6 T.1),(10,V6 T.2),(11,pt ak)]∧SH w K [] w' aL [s7 ak [V6 S.Doc,V6 S.Points] 71,s7 J [V3 m o q,V3 s x y] 26,s7 O [V3 B C D,V3 G H I] 30,s7 R [V6 d.2.2.1.Kind,sv d.2.2.1.Field,V3 U V W,V6 d.2.2.1.From,V6 d.2.2.1.To,V3 X Y aa] 35]∧M0 bq aL∧i7 S.Doc∧i7 S.Points) ?_ ?_
   ·obtain⟨aO,cZ,da⟩:=ob cX
    obtain⟨db,dc,dd⟩:=ob da
    obtain⟨ba,bO,bP⟩:=ob dd
    have ap:=bM.drew
    refine j_0 (fun w'=>H0 bq w'∧B0 J [V3 m o q,V3 s x y] w'∧B0 O [V3 B C D,V3 G H I] w'∧B0 R [V6 d.2.2.1.Kind,sv d.2.2.1.Field,V3 U V W,V6 d.2.2.1.From,V6 d.2.2.1.To,V3 X Y aa] w') 15 [] mixed ⟨ap.hasK kr,ap.hasObj m0,ap.hasObj m1,ap.hasObj m2⟩ (jv 0 rfl (i5 rfl) (jv 1 rfl (i5 rfl) (ji 2 rfl underlying46 E6 (bo.mono k) cZ fun de df fz dg dh=>?_)))
    obtain⟨rfl,bQ⟩:=dg
    have di:F1 _ de df [V6 aO]:=dh
    refine jh 3 rfl (fun _ h=>a0Y E6 rfl (di 0 _ rfl) h.1) (jh 4 rfl (fun _ h=>A0 (ds:=[V3 m o q,V3 s x y]) B9 rfl rfl rfl h.2.1) (jh 5 rfl (fun _ h=>A0 (ds:=[V3 B C D,V3 G H I]) C4 rfl rfl rfl h.2.2.1) (jh 6 rfl (fun _ h=>A0 (ds:=[V6 d.2.2.1.Kind,sv d.2.2.1.Field,V3 U V W,V6 d.2.2.1.From,V6 d.2.2.1.To,V3 X Y aa]) B1 rfl rfl rfl h.2.2.2) (jv 7 rfl (i5 rfl) (jv 8 rfl (i5 rfl) (ji 9 rfl underlying46 E6 (bo.mono k) dc fun dj dk fA dl dm=>?_))))))
    obtain⟨rfl,bR⟩:=dl
    have dn:F1 _ dj dk [V6 db]:=dm
    refine jh 10 rfl (fun _ h=>a0Y E6 rfl (dn 0 _ rfl) h.1) (j2 11 13 rfl rfl ?_ ?_)
    ·refine lk b6x (P4 F ap.enter0 (b7.mono (((f.le.trans i).trans l.le).trans k) aq) (b7.mono (((f.le.trans i).trans l.le).trans k) ar) (b7.mono (((f.le.trans i).trans l.le).trans k) au) (b7.mono (((f.le.trans i).trans l.le).trans k) aw) aB aC (b7.mono (((f.le.trans i).trans l.le).trans k) aD) aE aF (b7.mono (((f.le.trans i).trans l.le).trans k) aG) bR (hG6.keep ap) hD bO) ?_
     rintro fB fC ⟨dp,rfl,aP,dq⟩
     have aQ:=(ap.c0 aP).t3
     refine P0 ⟨aQ.hasK aP.le,aQ.hasObj m0,aQ.hasObj m1,aQ.hasObj m2⟩ (jv 12 rfl (C3 (cs:=#[V6 aO,V6 ba]) c3D Q2 rfl (by kernel_rfl)) (j1 13 rfl (al Q2 aQ fun bS fD dt=>?_)))
     have aR:SH _ _ _ _ _ [s7 bS [V6 0,V6 0] 71,_,_,_]:=dt
     refine P0 ⟨aR.hasK aP.le,aR.hasObj m1,aR.hasObj m2,aR.hasObj m3⟩ (j1 14 rfl (lw [V6 aO,V6 ba] Q2 aR fun fE aS=>(P0 ⟨aS.hasK aP.le,aS.hasObj m1,aS.hasObj m2,aS.hasObj m3⟩ (jd ?_))))
     cases oi bP
     exact qd ⟨bS,dp,rfl,aS,aP.le,bQ,dq⟩
    refine al Q2 ap fun bT fF du=>?_
    have az:SH _ _ _ _ _ [s7 bT [V6 0,V6 0] 71,_,_,_]:=du
    refine P0 ⟨az.hasK kr,az.hasObj m1,az.hasObj m2,az.hasObj m3⟩ (j1 11 rfl (lk b6x (P4 F az.enter0 (b7.mono (((f.le.trans i).trans l.le).trans k) aq) (b7.mono (((f.le.trans i).trans l.le).trans k) ar) (b7.mono (((f.le.trans i).trans l.le).trans k) au) (b7.mono (((f.le.trans i).trans l.le).trans k) aw) aB aC (b7.mono (((f.le.trans i).trans l.le).trans k) aD) aE aF (b7.mono (((f.le.trans i).trans l.le).trans k) aG) bR (hG6.keep az) hD bO) ?_))
    rintro fG fH ⟨dv,rfl,bb,dw⟩
    have aT:=(az.c0 bb).t4
    refine P0 ⟨aT.hasK bb.le,aT.hasObj m1,aT.hasObj m2,aT.hasObj m3⟩ (jv 12 rfl (C3 (cs:=#[V6 aO,V6 ba]) c3D Q2 rfl (by kernel_rfl)) (j1 14 rfl (lw [V6 aO,V6 ba] Q2 aT fun fI aU=>(P0 ⟨aU.hasK bb.le,aU.hasObj m1,aU.hasObj m2,aU.hasObj m3⟩ (jd ?_)))))
    cases oi bP
    exact qd ⟨bT,dv,rfl,aU,bb.le,bQ,dw⟩
   rintro _ fJ ⟨ak,aL,rfl,dx,aA,dy,dz⟩
   refine qr (lv (O6 rfl) (O7 (lv (N2 rfl) (nq ?_))))
   obtain⟨dA,dB,dC⟩:=ob cY
   refine l4 (IV w K [] aL [(3,pt J),(4,pt O),(5,pt R),(6,V6 d.2.2.2),(7,V3 am an ao),(8,V3 aI aJ aK),(9,V6 T.1),(10,V6 T.2),(11,pt ak),(12,.bool dA)] [s7 ak [V6 S.Doc,V6 S.Points] 71,s7 J [V3 m o q,V3 s x y] 26,s7 O [V3 B C D,V3 G H I] 30,s7 R [V6 d.2.2.1.Kind,sv d.2.2.1.Field,V3 U V W,V6 d.2.2.1.From,V6 d.2.2.1.To,V3 X Y aa] 35]) ?_ ?_
   ·refine j7 ?_
    obtain⟨fK,dD,dE⟩:=ob dB
    refine qw (fun (aV:Bool×Int)=>IW w K [] aL [(3,pt J),(4,pt O),(5,pt R),(6,V6 d.2.2.2),(7,V3 am an ao),(8,V3 aI aJ aK),(9,V6 T.1),(10,V6 T.2),(11,pt ak),(12,.bool aV.1),(13,V6 aV.2)] [s7 ak [V6 S.Doc,V6 S.Points] 71,s7 J [V3 m o q,V3 s x y] 26,s7 O [V3 B C D,V3 G H I] 30,s7 R [V6 d.2.2.1.Kind,sv d.2.2.1.Field,V3 U V W,V6 d.2.2.1.From,V6 d.2.2.1.To,V3 X Y aa] 35] (i7 aV.2)) dD ⟨aL,rfl,dx,kr,I5⟩ ?_
    rintro aV _ fL fM dF dG ⟨bU,rfl,bV,bc,fN⟩
    refine o4 (sr (mv rfl (mv rfl (lv (q9 underlying57 rfl (b7.mono ((((i.trans l.le).trans k).trans aA).trans bc) ag)) (lv (u7 rfl rfl) (nq (D5 dF rfl (fun dH bs=>?_) (fun dH bs=>?_))))))))
    ·refine j3 (qs (j7 ?_))
     obtain⟨dI,dJ,dK⟩:=ob bs
     refine l4 (IV w K [] bU [(3,pt J),(4,pt O),(5,pt R),(6,V6 d.2.2.2),(7,V3 am an ao),(8,V3 aI aJ aK),(9,V6 T.1),(10,V6 T.2),(11,pt ak),(12,.bool dI),(13,V6 aV.2)] [s7 ak [V6 S.Doc,V6 S.Points] 71,s7 J [V3 m o q,V3 s x y] 26,s7 O [V3 B C D,V3 G H I] 30,s7 R [V6 d.2.2.1.Kind,sv d.2.2.1.Field,V3 U V W,V6 d.2.2.1.From,V6 d.2.2.1.To,V3 X Y aa] 35]) ?_ ?_
     ·refine D4 mixed (by kernel_rfl) bV (km rfl (km rfl (bt dJ (fun ai bu=>?_) (fun ai bu=>?_))))
      ·iterate 6 refine kn ai ?_
       refine kv (J6 rfl ai rfl) (kv (u9 rfl) (B4 ?_))
       rintro fO ⟨dL,dM,dN⟩
       cases oi bu
       exact qd ⟨dL,rfl,dM,dN⟩
      refine kg ai (i5 rfl) (kg ai (i5 rfl) ?_)
      obtain⟨bd,dO,dP⟩:=ob bu
      refine C7 (t:=Q0) (wg rfl rfl ai) rfl underlying57 Q2 rfl rfl (b7.mono ((((i.trans l.le).trans k).trans aA).trans bc) ag) dO fun dQ dR fP dS dT=>?_
      obtain⟨rfl,fQ,fR⟩:=dS
      have dU:F1 _ dQ dR [V6 bd.Doc,V6 bd.Points]:=dT
      refine kgh ai (a1C Q2 rfl dU rfl) (kgh ai (D8 (ds:=[V6 S.Doc,V6 S.Points]) Q2 rfl m0 rfl rfl) (kg ai (c48 c39 rfl rfl (c4a bd.Doc bd.Points S.Doc S.Points)) (kv (l9 rfl ai rfl) (kv (u9 rfl) (B4 ?_)))))
      rintro fS ⟨dV,dW,dX⟩
      cases oi dP
      exact qd ⟨dV,rfl,dW,dX⟩
     rintro _ fT ⟨dY,rfl,dZ,ea⟩
     refine x8 (l5 (j5 (mv rfl (lv (y7 rfl rfl) (av rfl (i8 ?_))))))
     cases oi dK
     exact qd ⟨_,rfl,dY,rfl,dZ,(bc.trans ea),(u0 _)⟩
    refine y4 (g8 (g8 ?_))
    cases oi bs
    cases dG _ rfl
    refine l6 ?_
    cases oi dE
    exact qd ⟨bU,rfl,bV,bc⟩
   rintro _ fU ⟨bW,rfl,bX,aW⟩
   refine qr (mv rfl (nq (D5 dC rfl (fun eb bv=>?_) (fun eb bv=>?_))))
   ·refine j5 (mv rfl (lv (y7 rfl rfl) (av rfl (nb (l5 (j5 (mv rfl (lv (y7 rfl rfl) (av rfl ?_)))))))))
    refine i8 ?_
    cases oi bv
    exact qd ⟨_,rfl,bW,rfl,bX.s,((k.trans aA).trans aW),(u0 _),(u0 _)⟩
   refine o4 ?_
   obtain⟨ec,ed,ee⟩:=ob bv
   refine l4 (IV w K [] bW [(3,pt J),(4,pt O),(5,pt R),(6,V6 d.2.2.2),(7,V3 am an ao),(8,V3 aI aJ aK),(9,V6 T.1),(10,V6 T.2),(112,.bool ec)] [s7 J [V3 m o q,V3 s x y] 26,s7 O [V3 B C D,V3 G H I] 30,s7 R [V6 d.2.2.1.Kind,sv d.2.2.1.Field,V3 U V W,V6 d.2.2.1.From,V6 d.2.2.1.To,V3 X Y aa] 35]) ?_ ?_
   ·refine D4 mixed (by kernel_rfl) bX (km rfl (kv (q9 underlying57 rfl (b7.mono ((((i.trans l.le).trans k).trans aA).trans aW) ag)) (km rfl (kv (u7 rfl rfl) (km rfl (bt ed (fun ab bx=>?_) (fun ab bx=>?_)))))))
    ·iterate 8 refine kn ab ?_
     refine kv (J6 rfl ab rfl) (B4 ?_)
     rintro fV ⟨ef,eg,eh⟩
     cases oi bx
     exact qd ⟨ef,rfl,eg.s,eh⟩
    refine kgh ab (D8 (ds:=[V6 S.Doc,V6 S.Points]) Q2 rfl m0 rfl rfl) (kg ab (i5 rfl) (kg ab (i5 rfl) (kg ab (q9 underlying57 rfl (b7.mono ((((i.trans l.le).trans k).trans aA).trans aW) ag)) (kg ab (I6 rfl rfl) ?_))))
    obtain⟨bY,ei,ej⟩:=ob bx
    refine C7 (t:=Q0) (wg rfl rfl ab) rfl underlying57 Q2 rfl rfl (b7.mono ((((i.trans l.le).trans k).trans aA).trans aW) ag) ei fun ek el fW em en=>?_
    obtain⟨rfl,eo,ep⟩:=em
    have eq:F1 _ ek el [V6 bY.Doc,V6 bY.Points]:=en
    refine kgh ab (a1C Q2 rfl eq rfl) ?_
    obtain⟨fX,es,et⟩:=ob ej
    refine kcg ab c61 (fun _ _ eu fY=>(b2C F) eu.enter0 dy dz eo ep es) (kv (l9 rfl ab rfl) (B4 ?_))
    rintro fZ ⟨ev,ew,ex⟩
    cases oi et
    exact qd ⟨ev,rfl,ew.s,ex⟩
   rintro _ ga ⟨bZ,rfl,ca,eA⟩
   refine l5 (D5 ee rfl (fun eB bz=>?_) (fun eB bz=>?_))
   ·refine sr (lv (O6 rfl) (nq (j9 (i9 (c9 (c9 ?_))))))
    cases oi bz
    cases bL _ rfl
    refine i9 (c9 ?_)
    cases oi bK
    refine c9 ?_
    cases oi aY
    exact ey results12 ⟨bZ,rfl,ca.s⟩
   refine j3 (x8 (l5 (j5 (mv rfl (lv (y7 rfl rfl) (av rfl (i8 ?_)))))))
   cases oi bz
   exact qd ⟨_,rfl,bZ,rfl,ca,(((k.trans aA).trans aW).trans eA),bN,(u0 _)⟩
  refine y4 (g8 (g8 ?_))
  cases oi br
  cases bL _ rfl
  refine l6 ?_
  cases oi bK
  exact qd ⟨_,bq,rfl,rfl,bM.s,k,bN⟩
 rintro _ gb ⟨aZ,bp,rfl,rfl,cb,bA,gc⟩
 have aY:=E9 aY
 refine qr (mv rfl ?_)
 obtain⟨gd,eC,eD⟩:=ob aY
 refine lk c62 (b3J F cb.enter0 (ag.mono ((i.trans l.le).trans bA)) eC) ?_
 rintro ge gg ⟨bB,rfl,bC⟩
 have bD:=(cb.c0 bC).t0
 refine mv rfl (bt eD (fun ae bE=>?_) (fun ae bE=>?_))
 ·refine lg ae (i5 rfl) (lg ae (i5 rfl) (lg ae (q9 underlying57 rfl (b7.mono (((i.trans l.le).trans bA).trans bC.le) ag)) (lg ae (A9 rfl rfl) (lv (n9 rfl ae rfl) (mv rfl (bt bE (fun af bF=>?_) (fun af bF=>?_)))))))
  ·refine lg af (i5 rfl) (lg af (q9 underlying57 rfl (b7.mono (((i.trans l.le).trans bA).trans bC.le) ag)) (lg af (i5 rfl) (lg af (V2 rfl rfl) (lv (n9 rfl af rfl) (av rfl (nq (j9 ?_)))))))
   cases oi bF
   exact ey results12 ⟨bB,rfl,bD⟩
  refine lu af (lu af (lu af (lu af (lv (L8 rfl af rfl) (av rfl (nq (j9 ?_)))))))
  cases oi bF
  exact ey results12 ⟨bB,rfl,bD⟩
 refine lu ae (lu ae (lu ae (lu ae (lv (L8 rfl ae rfl) (mv rfl (lu rfl (lu rfl (lu rfl (lu rfl ?_)))))))))
 refine lv (L8 rfl rfl rfl) (av rfl (nq (j9 ?_)))
 cases oi bE
 exact ey results12 ⟨bB,rfl,bD⟩
end Go.Proofs.YtnloenhmkdpgeaaGreatDoor
