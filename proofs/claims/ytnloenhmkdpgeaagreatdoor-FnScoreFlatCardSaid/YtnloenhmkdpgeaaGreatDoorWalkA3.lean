/-
 Walks of the functions. Printed by gen.py.
-/
import Derived.Test.YtnloenhmkdpgeaaGreatDoorFacts
set_option linter.unusedVariables false
set_option linter.unusedSectionVars false
set_option maxRecDepth 100000
namespace Go.Proofs.YtnloenhmkdpgeaaGreatDoor
set_option maxHeartbeats 4000000
open Go Go.Fk Go.RowKit Tryz
variable (F:Nat){w:World}{K:F9}{Z:List Nat}{g1 g2 g3:Nat}{A B C D G H I J O R S T:Option Addr}{a b c d f i k l m n o p q s v x y aa ab ac ad ae af ag:Nat}
variable [dr:Dr]

theorem a2k {q0:List UInt8}{r:z7}(hS:SH w K [] w K [])(c:b7 tU8 K A a b q0)(hm:T3 F q0=some r):
  Calls prog 55 #[V3 A a b] w fun e w'=>∃g_1 a_2 n_3 c_4 K',e= .returned (.pointer (some ⟨g_1,0,none⟩))∧SH w K [] w' K' [s7 g_1 [V3 a_2 n_3 c_4,V6 r.p_] 141]∧b7 tU8 K' a_2 n_3 c_4 r.b_∧i7 r.p_:=by
 rw [T3] at hm
 refine ci func55 u ntmps55 (sr (lv (u9 (v:=.pointer none) u) (O7 (mv u (lv (q9 underlying22 u c) (lv (E7 u u) (nq (R9 u (fun d=>?_) (fun d=>?_)))))))))
 ·have f:=a1a d hm
  refine j5 (mv u ?_)
  obtain⟨G,q,s⟩:=ob f
  refine a7z (t:=tU8) wn u underlying22 tf5 u u c q fun i k l x=>(av u (nr (mv u (lv (C3 (cs:=#[V3 i k l,V6 0]) c4k c4o u (by kernel_rfl)) (bx u hS fun m H y=>?_)))))
  have B:SH _ _ _ _ _ [s7 m [V3 i k l,V6 0] 141]:=y
  refine av u (nq (j9 ?_))
  cases oi s
  exact ey results55 ⟨m,i,k,l,K,u,B,x,I5⟩
 have f:=a09 d hm
 refine j3 (qr (mv u (lv (C3 (cs:=#[V3 A a b,V6 0]) c4k c4o u (by kernel_rfl)) (bx u hS fun o I C=>?_))))
 have D:SH _ _ _ _ _ [s7 o [V3 A a b,V6 0] 141]:=C
 refine av u (nq (j9 ?_))
 cases oi f
 exact ey results55 ⟨o,A,a,b,K,u,D,c,I5⟩

theorem A6 {q0:z7}{q1:Int}{r:Int×z7}(hS:SH w K Z w K [s7 g1 [V3 A a b,V6 q0.p_] 141])(c:b7 tU8 K A a b q0.b_)(aF:i7 q0.p_)(aG:i7 q1)(hm:z2 F q0 q1=some r):
  Calls prog 77 #[.pointer (some ⟨g1,0,none⟩),V6 q1] w fun e w'=>∃a_2 n_3 c_4 K',e= .returned (V6 r.1)∧SH w K Z w' K' [s7 g1 [V3 a_2 n_3 c_4,V6 r.2.p_] 141]∧i7 r.1∧b7 tU8 K' a_2 n_3 c_4 r.2.b_∧i7 r.2.p_:=by
 rw [z2] at hm
 refine ci func77 u ntmps77 (sr (lv (N2 u) (nr (mv u (mv u (lv (B7 u) (fl b5H u E6 m0 hS u (lv (y7 u u) (lv (B7 u) ?_)))))))))
 refine fa b5H u (ls [V3 A a b,V6 (z8 (q0.p_+(1:Int)))] (V6 (z8 (q0.p_+(1:Int)))) E6 hS fun w9 k=>(ns (o4 ?_)))
 obtain⟨y,B,C⟩:=ob hm
 refine l4 (IV w K Z K [(0,pt g1),(1,V6 q1),(24,.bool y)] [s7 g1 [V3 A a b,V6 (z8 (q0.p_+(1:Int)))] 141]) ?_ ?_
 ·refine j5 (mv u (lv (u7 u u) (mv u (bt B (fun d l=>?_) (fun d l=>?_)))))
  ·iterate 6 refine lu d ?_
   refine lv (J6 u d u) (i8 ?_)
   cases oi l
   exact qd ⟨K,u,k,kr⟩
  refine lg d (i5 u) (lg d (B7 u) (lg d (c7 a6p u) (lg d (w8 b7Z u m0 k u) (lg d (q9 underlying22 u c) (lg d (A9 u u) (lv (l9 u d u) (i8 ?_)))))))
  cases oi l
  exact qd ⟨K,u,k,kr⟩
 rintro _ aI ⟨q,rfl,i,f⟩
 refine l5 (D5 C u (fun D m=>?_) (fun D m=>?_))
 ·refine sr (lv (N2 u) (nq (rr ?_)))
  cases oi m
  exact ey results77 ⟨A,a,b,q,u,i,I5,(c.mono f),(u0 _)⟩
 refine j3 (qr (mv u (lv (B7 u) (fl b5H u E6 m0 i u (lv (I6 u u) (av u (O7 (mv u (mv u ?_)))))))))
 refine lv (B7 u) (fl a6p u b7Z m0 i u (lv (q9 underlying22 u (c.mono f)) (lv (u7 u u) (nq (D5 m u (fun G o=>?_) (fun G o=>?_))))))
 ·refine sr (mv u (lv (B7 u) (fl a6p u b7Z m0 i u (mv u ?_))))
  obtain⟨H,I,J⟩:=ob o
  refine li underlying22 tf5 (c.mono f) I fun O R aJ S T=>?_
  obtain rfl:=S
  have U:F1 _ O R [iv8 H]:=T
  refine lv (y9 tf5 u i (U 0 _ u)) (lv (b8y underlying5 underlying3 u) (mv u ?_))
  obtain⟨aK,s,V⟩:=ob J
  refine lv (a8J u u s) (av u (nq (rr ?_)))
  cases oi V
  exact ey results77 ⟨A,a,b,q,u,i,(b29 (c46 _) s),(c.mono f),(u0 _)⟩
 refine j3 (qs (D4 mixed (by kernel_rfl) i (km u (kv (B7 u) (kv (c7 a6p u) (kh (z6 b7Z u m0 u) (km u (km u (kv (B7 u) ?_)))))))))
 refine kv (c7 a6p u) (kh (z6 b7Z u m0 u) (kv (q9 underlying22 u (c.mono f)) ?_))
 obtain⟨aL,W,X⟩:=ob o
 refine kv (a8J u u W) ?_
 obtain⟨Y,aa,ab⟩:=ob X
 refine ki underlying22 tf5 (c.mono f) aa fun ac ad aM ae af=>?_
 obtain rfl:=ae
 have ag:F1 _ ac ad [iv8 Y]:=af
 refine kh (C1 tf5 u (ag 0 _ u)) (kv (b8y underlying5 underlying3 u) (kv (U4 u u) (km u (kv (B7 u) (kv (c7 a6p u) (kh (z6 b7Z u m0 u) (km u (kv (U4 u u) (kv (y7 u u) ?_)))))))))
 refine km u (kv (B7 u) (kv (c7 a6p u) (kh (z6 b7Z u m0 u) (kv (q9 underlying22 u (c.mono f)) ?_))))
 obtain⟨aN,ah,ai⟩:=ob ab
 refine kv (a8J u u ah) ?_
 obtain⟨aj,ak,al⟩:=ob ai
 refine ki underlying22 tf5 (c.mono f) ak fun am an aO ao ap=>?_
 obtain rfl:=ao
 have aq:F1 _ am an [iv8 aj]:=ap
 refine kh (C1 tf5 u (aq 0 _ u)) (kv (b8y underlying5 underlying3 u) (kv (U4 u u) (kv (y7 u u) (km u (kv (U4 u u) (kv (y7 u u) (km u (km u (kv (B7 u) ?_)))))))))
 refine kv (c7 a6p u) (kh (z6 b7Z u m0 u) (kv (q9 underlying22 u (c.mono f)) ?_))
 obtain⟨aP,ar,au⟩:=ob al
 refine kv (a4D u u ar) (kv (U4 u u) (kv (y7 u u) ?_))
 obtain⟨aQ,aw,ax⟩:=ob au
 have ay:=oi aw
 refine kv (b9v u (congrArg (Value.int .i64) ay)) (B4 ?_)
 rintro aR ⟨az,aA,aB⟩
 refine qr (mv u (mv u ?_))
 obtain⟨aS,aC,aD⟩:=ob ax
 refine lv (a4D u u aC) (lv (c5e u u) (av u (nr (mv u (mv u ?_)))))
 obtain⟨aT,x,aE⟩:=ob aD
 refine lv (a8J u u x) (av u (nq (j9 ?_)))
 cases oi aE
 exact ey results77 ⟨A,a,b,az,u,aA,(b29 (u0 _) x),(c.mono (f.trans aB)),(u0 _)⟩

theorem b0O {q0:A1}{r:A1}(hS:SH w K [] w K [])(G:i7 q0.Id)(H:b7 K5 K A a b q0.Fields)(I:b7 N0 K B c d q0.Nums)(hm:a3l F q0=some r):
  Calls prog 163 #[.agg #[V6 q0.Id,V3 A a b,V3 B c d]] w fun e w'=>∃a_2 n_3 c_4 a_6 n_7 c_8 K',e= .returned (.agg #[V6 r.Id,V3 a_2 n_3 c_4,V3 a_6 n_7 c_8])∧SH w K [] w' K' [tail (V3 a_2 n_3 c_4) 148 2,tail (V3 a_6 n_7 c_8) 137 2]∧i7 r.Id∧b7 K5 K' a_2 n_3 c_4 r.Fields∧b7 N0 K' a_6 n_7 c_8 r.Nums:=by
 rw [a3l] at hm
 refine ci func163 u ntmps163 (sr (bx u hS fun aC aX aE=>?_))
 have aF:SH _ _ _ _ _ [s7 aC [V6 q0.Id,V3 A a b,V3 B c d] 44]:=aE
 refine al E8 aF fun aG aY aH=>?_
 have aI:SH _ _ _ _ _ [s7 aG [V6 0,V3 none 0 0,V3 none 0 0] 44,_]:=aH
 refine ns ?_
 obtain⟨aZ,J,aJ⟩:=ob hm
 obtain⟨ba,O,R⟩:=ob aJ
 have v:=aI.drew
 refine j_0 (fun w'=>H0 K w'∧B0 aC [V6 q0.Id,V3 A a b,V3 B c d] w') 12 [] mixed ⟨v.hasK kr,v.hasObj m1⟩ (jv 0 u (c7 P6 u) (jh 1 u (fun _ h=>B5 E6 u u h.2) (jv 3 u (c7 a1x u) (jh 4 u (fun _ h=>B5 a7g u u h.2) (jv 7 u (c7 a1S u) (jh 8 u (fun _ h=>B5 a7y u u h.2) (j2 2 6 u u ?_ ?_)))))))
 ·refine b0 K5 underlying41 U6 v fun bb bc bd f aD x=>(P0 ⟨x.hasK f,x.hasObj m2⟩ (j2 5 6 u u ?_ ?_))
  ·refine lp underlying41 U6 aD (H.mono f) J x fun S T U be bf m aK V=>(P0 ⟨V.hasK (f.trans m),V.hasObj m2⟩ (j1 6 u (b0 N0 underlying42 Y9 V fun bg bh bi o aL W=>(P0 ⟨W.hasK ((f.trans m).trans o),W.hasObj m3⟩ (j1 9 u (lp underlying42 Y9 aL (I.mono ((f.trans m).trans o)) O W fun X Y aa bj aM ab aN ac=>(P0 ⟨ac.hasK (((f.trans m).trans o).trans ab),ac.hasObj m3⟩ (jv 10 u (C3 (cs:=#[V6 q0.Id,V3 S T U,V3 X Y aa]) b4M E8 u (by kernel_rfl)) (j1 11 u ?_)))))))))
   refine lw [V6 q0.Id,V3 S T U,V3 X Y aa] E8 ac.f2 fun bk y=>(P0 ⟨y.hasK (((f.trans m).trans o).trans ab),y.hasObj m3⟩ (jd (l5 (j9 ?_))))
   cases oi R
   exact ez results163 E8 y m0 ⟨S,T,U,X,Y,aa,aM,u,y.f1.f2.s,G,(aK.mono (o.trans ab)),aN⟩
  refine b0 N0 underlying42 Y9 x fun bl bm bn i aO ad=>(P0 ⟨ad.hasK (f.trans i),ad.hasObj m3⟩ (j1 5 u (lp underlying41 U6 (aD.mono i) (H.mono (f.trans i)) J ad.f1 fun ae af ag bo bp q aP ah=>(P0 ⟨ah.hasK ((f.trans i).trans q),ah.hasObj m3⟩ (j1 9 u (lp underlying42 Y9 (aO.mono q) (I.mono ((f.trans i).trans q)) O ah.f1 fun ai aj ak bq aQ am aR an=>(P0 ⟨an.hasK (((f.trans i).trans q).trans am),an.hasObj m3⟩ (jv 10 u (C3 (cs:=#[V6 q0.Id,V3 ae af ag,V3 ai aj ak]) b4M E8 u (by kernel_rfl)) (j1 11 u ?_)))))))))
  refine lw [V6 q0.Id,V3 ae af ag,V3 ai aj ak] E8 an.f2 fun br C=>(P0 ⟨C.hasK (((f.trans i).trans q).trans am),C.hasObj m3⟩ (jd (l5 (j9 ?_))))
  cases oi R
  exact ez results163 E8 C m0 ⟨ae,af,ag,ai,aj,ak,aQ,u,C.f1.f2.s,G,(aP.mono am),aR⟩
 refine b0 N0 underlying42 Y9 v fun bs bu bv k aS ao=>(P0 ⟨ao.hasK k,ao.hasObj m2⟩ (j1 2 u (b0 K5 underlying41 U6 ao fun bz bA bB l aT ap=>(P0 ⟨ap.hasK (k.trans l),ap.hasObj m3⟩ (j1 5 u (lp underlying41 U6 aT (H.mono (k.trans l)) J ap fun aq ar au bC bD s aU aw=>(P0 ⟨aw.hasK ((k.trans l).trans s),aw.hasObj m3⟩ (j1 9 u (lp underlying42 Y9 (aS.mono (l.trans s)) (I.mono ((k.trans l).trans s)) O aw.f1 fun ax ay az bE aV aA aW aB=>?_)))))))))
 refine P0 ⟨aB.hasK (((k.trans l).trans s).trans aA),aB.hasObj m3⟩ (jv 10 u (C3 (cs:=#[V6 q0.Id,V3 aq ar au,V3 ax ay az]) b4M E8 u (by kernel_rfl)) (j1 11 u (lw [V6 q0.Id,V3 aq ar au,V3 ax ay az] E8 aB.f2 fun bF D=>(P0 ⟨D.hasK (((k.trans l).trans s).trans aA),D.hasObj m3⟩ (jd (l5 (j9 ?_)))))))
 cases oi R
 exact ez results163 E8 D m0 ⟨aq,ar,au,ax,ay,az,aV,u,D.f1.f2.s,G,(aU.mono aA),aW⟩

theorem b2M {q0:z7}{r:u6×z7}(hS:SH w K Z w K [s7 g1 [V3 A a b,V6 q0.p_] 141])(aI:b7 tU8 K A a b q0.b_)(aJ:i7 q0.p_)(hm:a2S F q0=some r):
  Calls prog 148 #[.pointer (some ⟨g1,0,none⟩)] w fun e w'=>∃a_1 n_2 c_3 a_5 n_6 c_7 a_9 n_10 c_11 K',e= .returned (.agg #[V3 a_1 n_2 c_3,V3 a_5 n_6 c_7])∧SH w K Z w' K' [tail (V3 a_1 n_2 c_3) 9 1,tail (V3 a_5 n_6 c_7) 144 2,s7 g1 [V3 a_9 n_10 c_11,V6 r.2.p_] 141]∧b7 D9 K' a_1 n_2 c_3 r.1.Stops∧b7 L0 K' a_5 n_6 c_7 r.1.Syns∧b7 tU8 K' a_9 n_10 c_11 r.2.b_∧i7 r.2.p_:=by
 rw [a2S] at hm
 refine ci func148 rfl ntmps148 (sr (al B9 hS fun s w9 aK=>?_))
 have aL:SH _ _ _ _ _ [s7 s [V3 none 0 0,V3 none 0 0] 26,_]:=aK
 refine nr (lv (C3 (cs:=#[V3 none 0 0,V3 none 0 0]) c7e B9 rfl (by kernel_rfl)) (al B9 aL fun v bZ aM=>?_))
 have aN:SH _ _ _ _ _ [s7 v [V3 none 0 0,V3 none 0 0] 26,_,_]:=aM
 refine lw [V3 none 0 0,V3 none 0 0] B9 aN fun ca aO=>(O7 (mv rfl ?_))
 obtain⟨aP,aQ,aR⟩:=ob hm
 have ak:=aO.f2
 refine lk a4r (A6 F ak.e1 aI aJ (by decide :i7 3) aQ) ?_
 rintro cb cc ⟨aS,aT,aU,am,rfl,aV,cd,aW,aX⟩
 have an:=(ak.c1 aV).t3
 refine lv (E7 rfl rfl) (nq ?_)
 obtain⟨ao,aY,aZ⟩:=ob aR
 refine l4 (fun E' w'=>∃x y B i k l C,E'=[(0,pt g1),(2,pt s),(3,pt v)]∧SH w K Z w' C [s7 g1 [V3 aS aT aU,V6 aP.2.p_] 141,s7 s [V3 none 0 0,V3 none 0 0] 26,s7 v [V3 x y B,V3 i k l] 26,tail (V3 x y B) 9 1,tail (V3 i k l) 144 2]∧M0 am C∧b7 D9 C x y B ao.Stops∧b7 L0 C i k l ao.Syns) ?_ ?_
 ·refine D5 aY rfl (fun ba W=>?_) (fun ba W=>?_)
  ·refine j5 (lb D9 (sv [116,104,101]) [sv [116,104,101]] ([116,104,101]:r4) underlying23 G7 ⟨rfl,(by decide :([116,104,101]:r4).length≤maxLen)⟩ an fun X ce bb bc bd be=>(fa a34 rfl (ls [V3 X 1 1,V3 none 0 0] (V3 X 1 1) W1 be.f2 fun cf bf=>(i8 ?_))))
   cases oi W
   have bg:=bf.nil 144 2
   exact qd ⟨X,1,1,none,0,0,bb,rfl,bg.f2.f2.f4.f4,bc,bd,(b7.nil _ _)⟩
  refine j3 ?_
  cases oi W
  have bh:=an.nil 9 1
  have bi:=bh.nil 144 2
  exact qd ⟨none,0,0,none,0,0,am,rfl,bi.f1.f3.f4.f4,kr,(b7.nil _ _),(b7.nil _ _)⟩
 rintro _ cg ⟨x,y,B,i,k,l,C,rfl,ap,bj,bk,aq⟩
 refine qs (sr (mv rfl ?_))
 obtain⟨bl,bm,bn⟩:=ob aZ
 refine lk a4r (A6 F ap.e1 (aW.mono bj) aX (by decide :i7 4) bm) ?_
 rintro ch cj ⟨bo,bp,bq,ar,rfl,S,ck,br,bs⟩
 have au:=(ap.c1 S).t5
 refine lv (A9 rfl rfl) (nq ?_)
 obtain⟨aw,bu,bv⟩:=ob bn
 refine l4 (fun E' w'=>∃c d f m o q D,E'=[(0,pt g1),(2,pt s),(3,pt v)]∧SH w K Z w' D [s7 g1 [V3 bo bp bq,V6 bl.2.p_] 141,s7 s [V3 none 0 0,V3 none 0 0] 26,s7 v [V3 c d f,V3 m o q] 26,tail (V3 c d f) 9 1,tail (V3 m o q) 144 2]∧M0 ar D∧b7 D9 D c d f aw.Stops∧b7 L0 D m o q aw.Syns) ?_ ?_
 ·refine D5 bu rfl (fun bx Y=>?_) (fun bx Y=>?_)
  ·refine j5 (bw [[100,111,103],[116,104,101]] underlying23 G7 au fun aa cl bz ax bA bB=>(fa a34 rfl (ls [V3 aa 2 2,V3 i k l] (V3 aa 2 2) W1 bB.f3 fun cm bC=>(i8 ?_))))
   cases oi Y
   exact qd ⟨aa,2,2,i,k,l,bz,rfl,bC.f5.f2.f2.f4.f4.s,ax,bA,(aq.mono (S.le.trans ax))⟩
  refine j3 ?_
  cases oi Y
  exact qd ⟨x,y,B,i,k,l,ar,rfl,au,kr,(bk.mono S.le),(aq.mono S.le)⟩
 rintro _ cn ⟨c,d,f,m,o,q,D,rfl,ay,bD,ab,bE⟩
 refine qs (sr (mv rfl ?_))
 obtain⟨cp,bF,bG⟩:=ob bv
 refine lk a4r (A6 F ay.e1 (br.mono bD) bs (by decide :i7 4) bF) ?_
 rintro cq cr ⟨ac,ad,ae,bH,rfl,G,ct,af,ag⟩
 have T:=(ay.c1 G).t5
 refine nq (j7 (sr (lv (A9 rfl rfl) (av rfl (nq (D5 bG rfl (fun bI ah=>?_) (fun bI ah=>?_)))))))
 ·refine j5 (bw [[110,101,119],[121,111,114,107]] underlying23 G7 T fun U cu cv az bJ bK=>(lv (C3 (cs:=#[V3 U 2 2,sv [110,121]]) b9F a4h rfl (by kernel_rfl)) (lb L0 (.agg #[V3 U 2 2,sv [110,121]]) [V3 U 2 2,sv [110,121]] (Z0.mk ([([110,101,119]:r4),([121,111,114,107]:r4)]:List r4) ([110,121]:r4)) underlying24 a4h ⟨U,2,2,rfl,bJ,(by decide :([110,121]:r4).length≤maxLen)⟩ bK fun H cw bL aA bM bN=>(fa a3y rfl (ls [V3 c d f,V3 H 1 1] (V3 H 1 1) a9v bN.f4 fun cx aB=>(nb (qr (lv (j6 (ds:=[V3 c d f,V3 H 1 1]) B9 rfl m0 aB rfl rfl) (lw [V3 c d f,V3 H 1 1] B9 aB.f4 fun cy aC=>?_)))))))))
  refine nq (j9 ?_)
  cases oi ah
  exact ez results148 B9 aC m0 ⟨c,d,f,H,1,1,ac,ad,ae,bL,rfl,aC.f4.f3.f5.s,(ab.mono ((G.le.trans az).trans aA)),bM,(af.mono (az.trans aA)),ag⟩
 refine sr (lv (A9 rfl rfl) (av rfl (nq (D5 ah rfl (fun bO ai=>?_) (fun bO ai=>?_)))))
 ·refine j5 (lb D9 (sv [98,105,103]) [sv [98,105,103]] ([98,105,103]:r4) underlying23 G7 ⟨rfl,(by decide :([98,105,103]:r4).length≤maxLen)⟩ T fun I cz cA aD bP bQ=>(lv (C3 (cs:=#[V3 I 1 1,sv [108,97,114,103]]) b9F a4h rfl (by kernel_rfl)) (bw [[98,105,103],[114,101,100],[102,111,120]] underlying23 G7 bQ fun J cB cC aj bR bS=>(lv (C3 (cs:=#[V3 J 3 3,sv [102,111,120]]) b9F a4h rfl (by kernel_rfl)) (bw [[110,101,119],[121,111,114,107]] underlying23 G7 bS fun O cD cE V bT bU=>(lv (C3 (cs:=#[V3 O 2 2,sv [110,121]]) b9F a4h rfl (by kernel_rfl)) ?_))))))
  refine J2 (t:=L0) (n:=3) (pv:=[(0,.agg #[V3 I 1 1,sv [108,97,114,103]]),(1,.agg #[V3 J 3 3,sv [102,111,120]]),(2,.agg #[V3 O 2 2,sv [110,121]])]) (cs:=[V3 I 1 1,sv [108,97,114,103],V3 J 3 3,sv [102,111,120],V3 O 2 2,sv [110,121]]) (xs:=[(Z0.mk ([([98,105,103]:r4)]:List r4) ([108,97,114,103]:r4)),(Z0.mk ([([98,105,103]:r4),([114,101,100]:r4),([102,111,120]:r4)]:List r4) ([102,111,120]:r4)),(Z0.mk ([([110,101,119]:r4),([121,111,114,107]:r4)]:List r4) ([110,121]:r4))]) wn rfl underlying24 a4h rfl rfl rfl (by kernel_rfl) rfl rfl (H5 (u:=.agg #[V3 I 1 1,sv [108,97,114,103]]) (z:=(Z0.mk ([([98,105,103]:r4)]:List r4) ([108,97,114,103]:r4))) ⟨I,1,1,rfl,(bP.mono (aj.trans V)),(by decide :([108,97,114,103]:r4).length≤maxLen)⟩ (H5 (u:=.agg #[V3 J 3 3,sv [102,111,120]]) (z:=(Z0.mk ([([98,105,103]:r4),([114,101,100]:r4),([102,111,120]:r4)]:List r4) ([102,111,120]:r4))) ⟨J,3,3,rfl,(bR.mono V),(by decide :([102,111,120]:r4).length≤maxLen)⟩ (H5 (u:=.agg #[V3 O 2 2,sv [110,121]]) (z:=(Z0.mk ([([110,101,119]:r4),([121,111,114,107]:r4)]:List r4) ([110,121]:r4))) ⟨O,2,2,rfl,bT,(by decide :([110,121]:r4).length≤maxLen)⟩ a1W))) bU ?_
  intro R cF bV aE bW bX
  refine fa a3y rfl (ls [V3 c d f,V3 R 3 3] (V3 R 3 3) a9v bX.f6 fun cG aF=>(nb (qr (lv (j6 (ds:=[V3 c d f,V3 R 3 3]) B9 rfl m0 aF rfl rfl) (lw [V3 c d f,V3 R 3 3] B9 aF.f6 fun cH aG=>(nq (j9 ?_)))))))
  cases oi ai
  exact ez results148 B9 aG m0 ⟨c,d,f,R,3,3,ac,ad,ae,bV,rfl,aG.f6.f3.f7.s,(b7.mono ((((G.le.trans aD).trans aj).trans V).trans aE) ab),bW,(b7.mono (((aD.trans aj).trans V).trans aE) af),ag⟩
 refine j3 (x8 (qr (lv (j6 (ds:=[V3 c d f,V3 m o q]) B9 rfl m2 T rfl rfl) (lw [V3 c d f,V3 m o q] B9 T.f1 fun cI aH=>(nq (j9 ?_))))))
 cases oi ai
 exact ez results148 B9 aH m0 ⟨c,d,f,m,o,q,ac,ad,ae,bH,rfl,aH.f1.f4.f4.s,(ab.mono G.le),(bE.mono G.le),af,ag⟩

theorem J4 {q0:z7}{q1:List r4}{r:r4×z7}(hS:SH w K Z w K [s7 g1 [V3 A a b,V6 q0.p_] 141])(l:b7 tU8 K A a b q0.b_)(m:i7 q0.p_)(f:b7 D9 K B c d q1)(hm:I1 F q0 q1=some r):
  Calls prog 58 #[.pointer (some ⟨g1,0,none⟩),V3 B c d] w fun e w'=>∃a_2 n_3 c_4 K',e= .returned (sv r.1)∧SH w K Z w' K' [s7 g1 [V3 a_2 n_3 c_4,V6 r.2.p_] 141]∧r.1.length≤maxLen∧b7 tU8 K' a_2 n_3 c_4 r.2.b_∧i7 r.2.p_:=by
 rw [I1] at hm
 refine ci func58 u ntmps58 (sr (lv (r_s u) (nr (mv u (mv u (mv u (lv (q9 underlying23 u f) ?_)))))))
 obtain⟨W,o,q⟩:=ob hm
 refine lk a4r (A6 F hS.e1 l m f.rn o) ?_
 rintro X Y ⟨s,x,y,C,rfl,i,aa,D,G⟩
 have k:=(hS.c1 i).t1
 obtain⟨H,I,J⟩:=ob q
 refine li underlying23 G7 (f.mono i.le) I fun O R ab S T=>?_
 obtain⟨rfl,U⟩:=S
 have V:F1 _ O R [sv H]:=T
 refine lv (y9 G7 u k (V 0 _ u)) (av u (nq (j9 ?_)))
 cases oi J
 exact ey results58 ⟨s,x,y,C,u,k,U,D,G⟩

theorem b3T {q0:z7}{r:r4×z7}(hS:SH w K Z w K [s7 g1 [V3 A a b,V6 q0.p_] 141])(d:b7 tU8 K A a b q0.b_)(f:i7 q0.p_)(hm:a3M F q0=some r):
  Calls prog 238 #[.pointer (some ⟨g1,0,none⟩)] w fun e w'=>∃a_2 n_3 c_4 K',e= .returned (sv r.1)∧SH w K Z w' K' [s7 g1 [V3 a_2 n_3 c_4,V6 r.2.p_] 141]∧r.1.length≤maxLen∧b7 tU8 K' a_2 n_3 c_4 r.2.b_∧i7 r.2.p_:=by
 rw [a3M] at hm
 refine ci func238 u ntmps238 (sr (lv (r_s u) (nr (mv u (bw [[99,97,116],[67,97,116,115],[100,111,103],[100,111,103,115],[114,117,110],[82,85,78,78,73,78,71],[116,104,101],[114,101,100],[98,105,103],[110,101,119,32,121,111,114,107],[78,101,119,32,32,89,111,114,107],[110,121],[102,111,120],[112,97,115,115,101,100],[120,49],[97,118,101,114,121,118,101,114,121,108,111,110,103,119,111,114,100]] underlying23 G7 hS fun I J O i k l=>?_)))))
 obtain⟨R,m,o⟩:=ob hm
 have c:=l.f1
 refine lk b2o (J4 F c.e1 (d.mono i) f k m) ?_
 rintro S T ⟨q,s,x,y,rfl,B,C,D,G⟩
 have H:=(c.c1 B).t2
 refine av u (nq (j9 ?_))
 cases oi o
 exact ey results238 ⟨q,s,x,y,u,H.s,C,D,G⟩

theorem a7L {q0:z7}{r:r4×z7}(hS:SH w K Z w K [s7 g1 [V3 A a b,V6 q0.p_] 141])(S:b7 tU8 K A a b q0.b_)(T:i7 q0.p_)(hm:W5 F q0=some r):
  Calls prog 223 #[.pointer (some ⟨g1,0,none⟩)] w fun e w'=>∃a_2 n_3 c_4 K',e= .returned (sv r.1)∧SH w K Z w' K' [s7 g1 [V3 a_2 n_3 c_4,V6 r.2.p_] 141]∧r.1.length≤maxLen∧b7 tU8 K' a_2 n_3 c_4 r.2.b_∧i7 r.2.p_:=by
 rw [W5] at hm
 refine ci func223 u ntmps223 (sr (lv (r_s u) (nr (lv (r_s u) (O7 (mv u ?_))))))
 obtain⟨r7,U,V⟩:=ob hm
 refine lk a4r (A6 F hS.e1 S T (by decide :i7 9) U) ?_
 rintro aO aP ⟨W,X,Y,x,rfl,aa,ab,ac,ad⟩
 have ae:=(hS.c1 aa).t1
 refine av u (nq ?_)
 obtain⟨d,af,ag⟩:=ob V
 refine l4 (fun E' w'=>∃k l m f,E'=[(0,pt g1),(3,sv d.1)]∧SH w K Z w' f [s7 g1 [V3 k l m,V6 d.2.p_] 141]∧M0 x f∧d.1.length≤maxLen∧b7 tU8 f k l m d.2.b_∧i7 d.2.p_) ?_ ?_
 ·refine j7 ?_
  obtain⟨aQ,ah,ai⟩:=ob af
  refine qw (fun (c:r4×Int×z7) E' w'=>∃o q s i,E'=[(0,pt g1),(3,sv c.1),(4,V6 c.2.1)]∧SH w K Z w' i [s7 g1 [V3 o q s,V6 c.2.2.p_] 141]∧M0 x i∧c.1.length≤maxLen∧i7 c.2.1∧b7 tU8 i o q s c.2.2.b_∧i7 c.2.2.p_) ah ⟨W,X,Y,x,u,ae,kr,(by decide :([]:r4).length≤maxLen),ab,ac,ad⟩ ?_
  rintro c _ aR aS aj ak ⟨o,q,s,i,rfl,y,C,al,aT,D,G⟩
  refine o4 (sr (mv u (lv (E7 u u) (nq (D5 aj u (fun am B=>?_) (fun am B=>?_))))))
  ·refine j3 (qs (j7 (j5 (mv u (mv u ?_)))))
   obtain⟨aU,an,ao⟩:=ob B
   refine lk c6s (b3T F y.e1 D G an) ?_
   rintro aV aW ⟨aX,aY,aZ,ba,rfl,H,bb,ap,aq⟩
   have ar:=(y.c1 H).t1
   obtain⟨bc,au,aw⟩:=ob ao
   refine lv (b3c u u au) (mv u (bw [[32],[32],[44,32],[45],[46,32]] underlying23 G7 ar fun bd be bf I ax ay=>?_))
   obtain⟨bg,az,aA⟩:=ob aw
   have J:=ay.f1
   refine lk b2o (J4 F J.e1 (ap.mono I) aq ax az) ?_
   rintro bh bi ⟨aB,aC,aD,aE,rfl,O,bj,aF,aG⟩
   have aH:=(J.c1 O).t2
   obtain⟨bk,R,aI⟩:=ob aA
   refine lv (b3c u u R) (av u (nb (l5 (j5 (mv u (lv (I6 u u) (av u (i8 ?_))))))))
   cases oi aI
   exact qd ⟨_,u,aB,aC,aD,aE,u,aH.s,(((C.trans H.le).trans I).trans O.le),(b5P R),(u0 _),aF,aG⟩
  refine y4 (g8 (g8 ?_))
  cases oi B
  cases ak _ u
  refine l6 ?_
  cases oi ai
  exact qd ⟨o,q,s,i,u,y,C,al,D,G⟩
 rintro _ bl ⟨k,l,m,f,rfl,aJ,bm,aK,aL,aM⟩
 refine qr (mv u (av u (nq (j9 ?_))))
 cases oi ag
 exact ey results223 ⟨k,l,m,f,u,aJ,aK,aL,aM⟩

theorem b3S {q0:z7}{q1:Int}{r:A1×z7}(hS:SH w K Z w K [s7 g1 [V3 A a b,V6 q0.p_] 141])(bW:b7 tU8 K A a b q0.b_)(bX:i7 q0.p_)(bo:i7 q1)(hm:a3L F q0 q1=some r):
  Calls prog 184 #[.pointer (some ⟨g1,0,none⟩),V6 q1] w fun e w'=>∃a_2 n_3 c_4 a_6 n_7 c_8 a_10 n_11 c_12 K',e= .returned (.agg #[V6 r.1.Id,V3 a_2 n_3 c_4,V3 a_6 n_7 c_8])∧SH w K Z w' K' [tail (V3 a_2 n_3 c_4) 148 2,tail (V3 a_6 n_7 c_8) 137 2,s7 g1 [V3 a_10 n_11 c_12,V6 r.2.p_] 141]∧i7 r.1.Id∧b7 K5 K' a_2 n_3 c_4 r.1.Fields∧b7 N0 K' a_6 n_7 c_8 r.1.Nums∧b7 tU8 K' a_10 n_11 c_12 r.2.b_∧i7 r.2.p_:=by
 rw [a3L] at hm
 refine ci func184 u ntmps184 (sr (al E8 hS fun I w9 bY=>?_))
 have bZ:SH _ _ _ _ _ [s7 I [V6 0,V3 none 0 0,V3 none 0 0] 44,_]:=bY
 refine nr (mv u (lv (C3 (cs:=#[V6 q1,V3 none 0 0,V3 none 0 0]) b4M E8 u (by kernel_rfl)) (al E8 bZ fun k dX ca=>?_)))
 have cb:SH _ _ _ _ _ [s7 k [V6 0,V3 none 0 0,V3 none 0 0] 44,_,_]:=ca
 refine lw [V6 q1,V3 none 0 0,V3 none 0 0] E8 cb fun dY cc=>(O7 (mv u ?_))
 obtain⟨dZ,cd,ce⟩:=ob hm
 have bp:=cc.f2
 refine lk a4r (A6 F bp.e1 bW bX (by decide :i7 6) cd) ?_
 rintro ea eb ⟨cf,cg,ch,aB,rfl,cj,ec,bq,br⟩
 have bs:=(bp.c1 cj).t3
 refine lv (E7 u u) (nq ?_)
 obtain⟨l,ck,cl⟩:=ob ce
 refine l4 (fun E' w'=>∃aC aD aE S T U o q s V,E'=[(0,pt g1),(4,pt I),(5,pt k)]∧SH w K Z w' V [s7 g1 [V3 aC aD aE,V6 l.1.p_] 141,s7 I [V6 0,V3 none 0 0,V3 none 0 0] 44,s7 k [V6 l.2.Id,V3 S T U,V3 o q s] 44,tail (V3 S T U) 148 2,tail (V3 o q s) 137 2]∧M0 aB V∧b7 tU8 V aC aD aE l.1.b_∧i7 l.1.p_∧i7 l.2.Id∧b7 K5 V S T U l.2.Fields∧b7 N0 V o q s l.2.Nums) ?_ ?_
 ·refine D5 ck u (fun cm aF=>?_) (fun cm aF=>?_)
  ·have ao:=bs.drew
   refine wh1 (fun w'=>H0 aB w') (fun w'=>B0 k [V6 q1,V3 none 0 0,V3 none 0 0] w') 8 [(1,6),(1,7),(1,8),(6,7),(6,8),(7,8)] mixed (ao.hasK kr) (fun _=>ao.hasObj (.tail _ (.head _))) (gt (c7 a1x u) (gf (fun _ h=>B5 a7g u u h) (gt (i5 u) (gn ?_))))
   obtain⟨ap,cn,cp⟩:=ob aF
   refine lk c34 (a7L F ao.e1 bq br cn) ?_
   rintro ed ee ⟨cq,cr,ct,ef,rfl,W,cu,cv,cw⟩
   have aG:=(ao.c1 W).t3
   refine i8 (qh (aG.hasK W.le) (fun _=>aG.hasObj (.tail _ (.head _))) (gt (C3 (cs:=#[sv [98,111,100,121],sv ap.1]) c4l U6 u (by kernel_rfl)) (gn (lb K5 (.agg #[sv [98,111,100,121],sv ap.1]) [sv [98,111,100,121],sv ap.1] (Q6.mk ([98,111,100,121]:r4) ap.1) underlying41 U6 ⟨u,(by decide :([98,111,100,121]:r4).length≤maxLen),cu⟩ aG fun eg eh ei ae cx aH=>(i8 (qh (aH.hasK (W.le.trans ae)) (fun _=>aH.hasObj (.tail _ (.tail _ (.head _)))) (gn ?_)))))))
   have cy:=aH.nil 148 2
   obtain⟨ej,cz,cA⟩:=ob cp
   refine lp underlying41 U6 (b7.nil _ _) cx cz cy fun aI aJ aK ek cB aq cC aL=>(i8 (qh (aL.hasK ((W.le.trans ae).trans aq)) (fun _=>aL.hasObj (.tail _ (.tail _ (.tail _ (.head _))))) (gt (c7 a1x u) (gn (ls [V6 q1,V3 aI aJ aK,V3 none 0 0] (V3 aI aJ aK) a7g aL.f3 fun el bu=>(i8 (qh (bu.hasK ((W.le.trans ae).trans aq)) (fun h=>by cases h) (gd' ?_))))))))
   cases oi cA
   have cD:=bu.nil 137 2
   exact qd ⟨cq,cr,ct,aI,aJ,aK,none,0,0,cB,u,cD.f2.f2.f5.f5.s,((W.le.trans ae).trans aq),(cv.mono (ae.trans aq)),cw,bo,cC,(b7.nil _ _)⟩
  refine j3 ?_
  cases oi aF
  have cE:=bs.nil 148 2
  have cF:=cE.nil 137 2
  exact qd ⟨cf,cg,ch,none,0,0,none,0,0,aB,u,cF.f1.f3.f4.f4,kr,bq,br,bo,(b7.nil _ _),(b7.nil _ _)⟩
 rintro _ em ⟨aC,aD,aE,S,T,U,o,q,s,V,rfl,bv,en,cG,cH,bx,bz,bA⟩
 refine qs (sr (mv u ?_))
 obtain⟨eo,cI,cJ⟩:=ob cl
 refine lk a4r (A6 F bv.e1 cG cH (by decide :i7 3) cI) ?_
 rintro ep eq ⟨cK,cL,cM,aM,rfl,af,es,bB,bC⟩
 have bD:=(bv.c1 af).t5
 refine lv (A9 u u) (nq ?_)
 obtain⟨m,cN,cO⟩:=ob cJ
 refine l4 (fun E' w'=>∃aN aO aP v x y X Y aa ab,E'=[(0,pt g1),(4,pt I),(5,pt k)]∧SH w K Z w' ab [s7 g1 [V3 aN aO aP,V6 m.1.p_] 141,s7 I [V6 0,V3 none 0 0,V3 none 0 0] 44,s7 k [V6 m.2.Id,V3 v x y,V3 X Y aa] 44,tail (V3 v x y) 148 2,tail (V3 X Y aa) 137 2]∧M0 aM ab∧b7 tU8 ab aN aO aP m.1.b_∧i7 m.1.p_∧i7 m.2.Id∧b7 K5 ab v x y m.2.Fields∧b7 N0 ab X Y aa m.2.Nums) ?_ ?_
 ·refine D5 cN u (fun cP aQ=>?_) (fun cP aQ=>?_)
  ·have ar:=bD.drew
   refine wh1 (fun w'=>H0 aM w') (fun w'=>B0 k [V6 l.2.Id,V3 S T U,V3 o q s] w') 8 [(1,6),(1,7),(1,8),(6,7),(6,8),(7,8)] mixed (ar.hasK kr) (fun _=>ar.hasObj (.tail _ (.tail _ (.head _)))) (gt (c7 a1x u) (gf (fun _ h=>B5 a7g u u h) (gt (i5 u) (gn ?_))))
   obtain⟨au,cQ,cR⟩:=ob aQ
   refine lk c34 (a7L F ar.e1 bB bC cQ) ?_
   rintro et eu ⟨cS,cT,cU,ev,rfl,B,cV,cW,cX⟩
   have aR:=(ar.c1 B).t5
   refine i8 (qh (aR.hasK B.le) (fun _=>aR.hasObj (.tail _ (.tail _ (.head _)))) (gt (C3 (cs:=#[sv [116,105,116,108,101],sv au.1]) c4l U6 u (by kernel_rfl)) (gn (lb K5 (.agg #[sv [116,105,116,108,101],sv au.1]) [sv [116,105,116,108,101],sv au.1] (Q6.mk ([116,105,116,108,101]:r4) au.1) underlying41 U6 ⟨u,(by decide :([116,105,116,108,101]:r4).length≤maxLen),cV⟩ aR fun ew ex eA J cY aS=>(i8 (qh (aS.hasK (B.le.trans J)) (fun _=>aS.hasObj (.tail _ (.tail _ (.tail _ (.head _))))) (gn ?_)))))))
   obtain⟨eB,cZ,da⟩:=ob cR
   refine lp underlying41 U6 (bz.mono ((af.le.trans B.le).trans J)) cY cZ aS.f4 fun aT aU aV eC db ag dc aW=>(i8 (qh (aW.hasK ((B.le.trans J).trans ag)) (fun _=>aW.hasObj (.tail _ (.tail _ (.tail _ (.tail _ (.head _)))))) (gt (c7 a1x u) (gn (ls [V6 l.2.Id,V3 aT aU aV,V3 o q s] (V3 aT aU aV) a7g aW.f4 fun eD bE=>(i8 (qh (bE.hasK ((B.le.trans J).trans ag)) (fun h=>by cases h) (gd' ?_))))))))
   cases oi da
   exact qd ⟨cS,cT,cU,aT,aU,aV,o,q,s,db,u,bE.f5.f2.f2.f5.f5.s,((B.le.trans J).trans ag),(cW.mono (J.trans ag)),cX,bx,dc,(b7.mono (((af.le.trans B.le).trans J).trans ag) bA)⟩
  refine j3 ?_
  cases oi aQ
  exact qd ⟨cK,cL,cM,S,T,U,o,q,s,aM,u,bD,kr,bB,bC,bx,(bz.mono af.le),(bA.mono af.le)⟩
 rintro _ eE ⟨aN,aO,aP,v,x,y,X,Y,aa,ab,rfl,bF,eF,dd,de,bG,bH,bI⟩
 refine qs (sr (mv u ?_))
 obtain⟨eG,df,dg⟩:=ob cO
 refine lk a4r (A6 F bF.e1 dd de (by decide :i7 3) df) ?_
 rintro eH eI ⟨dh,di,dj,aX,rfl,ah,eJ,bJ,bK⟩
 have bL:=(bF.c1 ah).t5
 refine lv (E7 u u) (nq ?_)
 obtain⟨c,dk,dl⟩:=ob dg
 refine l4 (fun E' w'=>∃aY aZ ba d f i C D G ac,E'=[(0,pt g1),(4,pt I),(5,pt k)]∧SH w K Z w' ac [s7 g1 [V3 aY aZ ba,V6 c.1.p_] 141,s7 I [V6 0,V3 none 0 0,V3 none 0 0] 44,s7 k [V6 c.2.Id,V3 d f i,V3 C D G] 44,tail (V3 d f i) 148 2,tail (V3 C D G) 137 2]∧M0 aX ac∧b7 tU8 ac aY aZ ba c.1.b_∧i7 c.1.p_∧i7 c.2.Id∧b7 K5 ac d f i c.2.Fields∧b7 N0 ac C D G c.2.Nums) ?_ ?_
 ·refine D5 dk u (fun dm bb=>?_) (fun dm bb=>?_)
  ·have aw:=bL.drew
   refine wh1 (fun w'=>H0 aX w') (fun w'=>B0 k [V6 m.2.Id,V3 v x y,V3 X Y aa] w') 8 [(1,6),(1,7),(1,8),(6,7),(6,8),(7,8)] mixed (aw.hasK kr) (fun _=>aw.hasObj (.tail _ (.tail _ (.head _)))) (gt (c7 a1S u) (gf (fun _ h=>B5 a7y u u h) (gt (i5 u) (gn ?_))))
   obtain⟨ax,dn,dp⟩:=ob bb
   refine lk a4r (A6 F aw.e1 bJ bK (by decide :i7 4) dn) ?_
   rintro eK eL ⟨dq,dr,dt,eM,rfl,H,du,dv,dw⟩
   have bc:=(aw.c1 H).t5
   refine i8 (qh (bc.hasK H.le) (fun _=>bc.hasObj (.tail _ (.tail _ (.head _)))) (gt (C3 (cs:=#[sv [114,97,116,101],V6 ax.1]) c4j Y9 u (by kernel_rfl)) (gn (lb N0 (.agg #[sv [114,97,116,101],V6 ax.1]) [sv [114,97,116,101],V6 ax.1] (a5j.mk ([114,97,116,101]:r4) ax.1) underlying42 Y9 ⟨u,(by decide :([114,97,116,101]:r4).length≤maxLen),du⟩ bc fun eN eO eP O dx bd=>(i8 (qh (bd.hasK (H.le.trans O)) (fun _=>bd.hasObj (.tail _ (.tail _ (.tail _ (.head _))))) (gn ?_)))))))
   obtain⟨eQ,dy,dz⟩:=ob dp
   refine lp underlying42 Y9 (bI.mono ((ah.le.trans H.le).trans O)) dx dy bd.f5 fun be bf bg eR dA ai dB bh=>(i8 (qh (bh.hasK ((H.le.trans O).trans ai)) (fun _=>bh.hasObj (.tail _ (.tail _ (.tail _ (.tail _ (.head _)))))) (gt (c7 a1S u) (gn (ls [V6 m.2.Id,V3 v x y,V3 be bf bg] (V3 be bf bg) a7y bh.f4 fun eS bM=>(i8 (qh (bM.hasK ((H.le.trans O).trans ai)) (fun h=>by cases h) (gd' ?_))))))))
   cases oi dz
   exact qd ⟨dq,dr,dt,v,x,y,be,bf,bg,dA,u,bM.f1.f5.f2.f5.f5.s,((H.le.trans O).trans ai),(dv.mono (O.trans ai)),dw,bG,(b7.mono (((ah.le.trans H.le).trans O).trans ai) bH),dB⟩
  refine j3 ?_
  cases oi bb
  exact qd ⟨dh,di,dj,v,x,y,X,Y,aa,aX,u,bL,kr,bJ,bK,bG,(bH.mono ah.le),(bI.mono ah.le)⟩
 rintro _ eT ⟨aY,aZ,ba,d,f,i,C,D,G,ac,rfl,bN,eU,dC,dD,bO,bP,bQ⟩
 refine qs (sr (mv u ?_))
 obtain⟨eV,dE,dF⟩:=ob dl
 refine lk a4r (A6 F bN.e1 dC dD (by decide :i7 3) dE) ?_
 rintro eW eX ⟨dG,dH,dI,bR,rfl,aj,eY,bS,bT⟩
 have bi:=(bN.c1 aj).t5
 refine lv (A9 u u) (nq (D5 dF u (fun dJ bj=>?_) (fun dJ bj=>?_)))
 ·have ay:=bi.drew
  refine wh1 (fun w'=>H0 bR w') (fun w'=>B0 k [V6 c.2.Id,V3 d f i,V3 C D G] w') 9 [(1,7),(1,8),(1,9),(7,8),(7,9),(8,9)] mixed (ay.hasK kr) (fun _=>ay.hasObj (.tail _ (.tail _ (.head _)))) (gt (c7 a1S u) (gf (fun _ h=>B5 a7y u u h) (gt (i5 u) (gn ?_))))
  obtain⟨az,dK,dL⟩:=ob bj
  refine lk a4r (A6 F ay.e1 bS bT (by decide :i7 30) dK) ?_
  rintro eZ fb ⟨dM,dN,dO,fc,rfl,R,fd,dP,dQ⟩
  have bk:=(ay.c1 R).t5
  refine i8 (qh (bk.hasK R.le) (fun _=>bk.hasObj (.tail _ (.tail _ (.head _)))) (gt (y7 u u) (gt (C3 (cs:=#[sv [121,101,97,114],V6 (z8 ((2000:Int)+az.1))]) c4j Y9 u (by kernel_rfl)) (gn (lb N0 (.agg #[sv [121,101,97,114],V6 (z8 ((2000:Int)+az.1))]) [sv [121,101,97,114],V6 (z8 ((2000:Int)+az.1))] (a5j.mk ([121,101,97,114]:r4) (z8 ((2000:Int)+az.1))) underlying42 Y9 ⟨u,(by decide :([121,101,97,114]:r4).length≤maxLen),(u0 _)⟩ bk fun fe fg fh ad dR bl=>(i8 (qh (bl.hasK (R.le.trans ad)) (fun _=>bl.hasObj (.tail _ (.tail _ (.tail _ (.head _))))) (gn ?_))))))))
  obtain⟨fi,dS,dT⟩:=ob dL
  refine lp underlying42 Y9 (bQ.mono ((aj.le.trans R.le).trans ad)) dR dS bl.f5 fun ak am an fj dU aA dV bm=>(i8 (qh (bm.hasK ((R.le.trans ad).trans aA)) (fun _=>bm.hasObj (.tail _ (.tail _ (.tail _ (.tail _ (.head _)))))) (gt (c7 a1S u) (gn (ls [V6 c.2.Id,V3 d f i,V3 ak am an] (V3 ak am an) a7y bm.f4 fun fk bn=>(i8 (qh (bn.hasK ((R.le.trans ad).trans aA)) (fun h=>by cases h) (gd' (qr (lv (j6 (ds:=[V6 c.2.Id,V3 d f i,V3 ak am an]) E8 u m0 bn u u) (lw [V6 c.2.Id,V3 d f i,V3 ak am an] E8 bn.f4 fun fm bU=>?_)))))))))))
  refine nq (j9 ?_)
  cases oi dT
  exact ez results184 E8 bU m0 ⟨d,f,i,ak,am,an,dM,dN,dO,dU,u,bU.f4.f3.f5.s,bO,(b7.mono (((aj.le.trans R.le).trans ad).trans aA) bP),dV,(dP.mono (ad.trans aA)),dQ⟩
 refine j3 (qr (lv (j6 (ds:=[V6 c.2.Id,V3 d f i,V3 C D G]) E8 u m2 bi u u) (lw [V6 c.2.Id,V3 d f i,V3 C D G] E8 bi.f1 fun fn bV=>(nq (j9 ?_)))))
 cases oi bj
 exact ez results184 E8 bV m0 ⟨d,f,i,C,D,G,dG,dH,dI,bR,u,bV.f1.f4.f4.s,bO,(bP.mono aj.le),(bQ.mono aj.le),bS,bT⟩

theorem a62 {q0:z7}{r:r4×z7}(hS:SH w K Z w K [s7 g1 [V3 A a b,V6 q0.p_] 141])(d:b7 tU8 K A a b q0.b_)(f:i7 q0.p_)(hm:a2a F q0=some r):
  Calls prog 57 #[.pointer (some ⟨g1,0,none⟩)] w fun e w'=>∃a_2 n_3 c_4 K',e= .returned (sv r.1)∧SH w K Z w' K' [s7 g1 [V3 a_2 n_3 c_4,V6 r.2.p_] 141]∧r.1.length≤maxLen∧b7 tU8 K' a_2 n_3 c_4 r.2.b_∧i7 r.2.p_:=by
 rw [a2a] at hm
 refine ci func57 u ntmps57 (sr (lv (r_s u) (nr (mv u (bw [[98,111,100,121],[98,111,100,121],[116,105,116,108,101],[110,111,110,101]] underlying23 G7 hS fun I J O i k l=>?_)))))
 obtain⟨R,m,o⟩:=ob hm
 have c:=l.f1
 refine lk b2o (J4 F c.e1 (d.mono i) f k m) ?_
 rintro S T ⟨q,s,x,y,rfl,B,C,D,G⟩
 have H:=(c.c1 B).t2
 refine av u (nq (j9 ?_))
 cases oi o
 exact ey results57 ⟨q,s,x,y,u,H.s,C,D,G⟩

theorem b0E {q0:C0}{q1:r4}{q2:D3}{r:Bool}(hS:SH w K Z w K [s7 c [sv q1] 9,s7 d [sv q2.Text,V6 q2.At] 107])(o:q0.Field.length≤maxLen)(q:q0.Term.length≤maxLen)(s:b7 S2 K A a b q0.Posts)(x:q1.length≤maxLen)(y:q2.Text.length≤maxLen)(B:i7 q2.At)(hm:a3g F q0 q1 q2=some r):
  Calls prog 153 #[.agg #[sv q0.Field,sv q0.Term,V3 A a b],.pointer (some ⟨c,0,none⟩),.pointer (some ⟨d,0,none⟩)] w fun e w'=>∃K',e= .returned (.bool r)∧SH w K Z w' K' [s7 c [sv q1] 9,s7 d [sv q2.Text,V6 q2.At] 107]:=by
 rw [a3g] at hm
 refine ci func153 u ntmps153 (sr (bx u hS fun l C m=>?_))
 have i:SH _ _ _ _ _ [s7 l [sv q0.Field,sv q0.Term,V3 A a b] 99,_,_]:=m
 refine lv (O6 u) (nr (fl a3z u G7 m0 i u (lv (w8 G7 u m1 i u) (lv (J8 u u) (mv u (bt hm (fun f k=>?_) (fun f k=>?_)))))))
 ·refine lg f (c7 a21 u) (lg f (w8 G7 u m0 i u) (lg f (c7 a3Z u) (lg f (w8 G7 u m2 i u) (lg f (J8 u u) (lv (n9 u f u) (av u (nq (j9 ?_))))))))
  cases oi k
  exact ey results153 ⟨K,u,i.s⟩
 iterate 5 refine lu f ?_
 refine lv (L8 u f u) (av u (nq (j9 ?_)))
 cases oi k
 exact ey results153 ⟨K,u,i.s⟩

theorem a2h {q0:List C0}{q1c0:r4}{q1c1:D3}{r:Int}(hS:SH w K Z w K [s7 c [sv q1c0] 9,s7 d [sv q1c1.Text,V6 q1c1.At] 107])(f:b7 B8 K A a b q0)(O:q1c0.length≤maxLen)(R:q1c1.Text.length≤maxLen)(S:i7 q1c1.At)(hm:G5 F q0 q1c0 q1c1=some r):
  Calls prog 152 #[V3 A a b,.func (.func 153) #[] #[.pointer (some ⟨c,0,none⟩),.pointer (some ⟨d,0,none⟩)]] w fun e w'=>∃K',e= .returned (V6 r)∧SH w K Z w' K' [s7 c [sv q1c0] 9,s7 d [sv q1c1.Text,V6 q1c1.At] 107]∧i7 r:=by
 rw [G5] at hm
 refine ci func152 u ntmps152 (sr (lv (N2 u) (O7 (mv u (lv (q9 underlying28 u f) (lv (r_m u) (nq ?_)))))))
 obtain⟨T,U,i⟩:=ob hm
 refine l4 (IE T w K Z K [] [s7 c [sv q1c0] 9,s7 d [sv q1c1.Text,V6 q1c1.At] 107]) ?_ ?_
 ·refine j7 ?_
  obtain⟨aq,V,q⟩:=ob U
  refine qf (fun (s:Nat) (x:Unit)=>IV w K Z K [(0,V3 A a b),(1,.func (.func 153) #[] #[pt c,pt d]),(7,V6 (q0.length:Int)),(8,V6 ((s:Nat):Int))] [s7 c [sv q1c0] 9,s7 d [sv q1c1.Text,V6 q1c1.At] 107]) V ⟨K,u,hS,kr⟩ ?_ ?_
  ·rintro s x _ W ar hi29 X Y ⟨y,rfl,k,l⟩
   refine sr (lv (u7 u u) (ns (C9 u (b8 (by omega)) (j3 (l5 (o4 (j7 (sr (mv u (av u (nr (mv u ?_))))))))))))
   refine mv u (mv u ?_)
   obtain⟨m,aa,ab⟩:=ob X
   refine li underlying28 P2 (f.mono l) aa fun ac ad au ae af=>?_
   obtain⟨B,C,D,rfl,ag,ah,ai⟩:=ae
   have aj:F1 _ ac ad [sv m.Field,sv m.Term,V3 B C D]:=af
   refine lv (F3 P2 u k aj u) ?_
   obtain⟨aw,ak,al⟩:=ob ab
   have G:=k.f1.f1
   refine A3 wn u (b0W (vs:=[.agg #[sv m.Field,sv m.Term,V3 B C D]]) (cap:=#[pt c,pt d]) c5U u u) (b0E F G.e2 ag ah ai O R S ak) ?_
   rintro ax ay ⟨H,rfl,I⟩
   refine⟨_,u,?_⟩
   have J:=(G.c2 I).t2
   refine nq (D5 al u (fun am o=>?_) (fun am o=>?_))
   ·refine sr (mv u (av u (nq (j9 (i9 (c9 (c9 ?_)))))))
    cases oi o
    cases Y _ u
    refine i9 (c9 ?_)
    cases oi q
    refine c9 ?_
    cases oi i
    exact ey results152 ⟨H,u,J,(b28 hi29 (b7.max f))⟩
   refine j3 (x8 (qg (lv (B6 u u (C6 hi29 (b7.max f))) (mv u (i8 ?_)))))
   cases oi o
   exact qd ⟨_,u,H,u,J,(l.trans I.le)⟩
  rintro x _ W an ⟨y,rfl,k,l⟩
  subst an
  refine sr (lv (u7 u u) (ns (C8 u (c6 (by omega)) (y4 (g8 (g8 (l6 ?_)))))))
  cases oi q
  exact L6 ⟨_,y,u,u,k,l⟩ trivial
 rintro _ az ⟨aA,ao,rfl,rfl,ap,aB⟩
 have i:=E9 i
 refine qr (lv (u9 (v:=V6 (-1)) u) (nq (j9 ?_)))
 cases oi i
 exact ey results152 ⟨ao,u,ap,(by decide :i7 (-1))⟩

theorem b2x {g:Nat}{a:Option Addr}{n:Nat}{c:Nat}{lay:List L9}{q0:A5}{q1:r4}{q2:D3}{q3:Int}{r:A5}(aJ:SH w K (List.flatMap F5.gs [s7 g [V3 A b d,V3 a n c] 30,a8D (S6 99 48 3 a n c lay)]) w K [s7 g [V3 A b d,V3 a n c] 30,a8D (S6 99 48 3 a n c lay)])(aK:b7 F6 K A b d q0.Docs)(U:a7A lay q0.Entries)(ap:q1.length≤maxLen)(aq:q2.Text.length≤maxLen)(ag:i7 q2.At)(aL:i7 q3)(hm:a2H F q0 q1 q2 q3=some r):
  Calls prog 111 #[.pointer (some ⟨g,0,none⟩),sv q1,.agg #[sv q2.Text,V6 q2.At],V6 q3] w fun e w'=>∃a_1 n_2 c_3 a_4 n_5 c_6 lay_7 K',e= .returned (.tuple #[])∧SH w K (List.flatMap F5.gs [s7 g [V3 A b d,V3 a n c] 30,a8D (S6 99 48 3 a n c lay)]) w' K' [s7 g [V3 a_1 n_2 c_3,V3 a_4 n_5 c_6] 30,a8D (S6 99 48 3 a_4 n_5 c_6 lay_7)]∧b7 F6 K' a_1 n_2 c_3 r.Docs∧a7A lay_7 r.Entries:=by
 rw [a2H] at hm
 obtain⟨k,aM,h1⟩:=ob hm
 obtain⟨es,B,h2⟩:=ob h1
 obtain⟨en,ar,h3⟩:=ob h2
 obtain⟨ps,C,h4⟩:=ob h3
 obtain⟨p,ah,h5⟩:=ob h4
 obtain⟨at_,V,h6⟩:=ob h5
 cases oi h6
 have aT:SH w K (List.flatMap F5.gs [s7 g [V3 A b d,V3 a n c] 30,a8D (S6 99 48 3 a n c lay)]) w K (a1Z 99 a n c lay::((lay).flatMap (L9.items 48 3)++[s7 g [V3 A b d,V3 a n c] 30])):=(aJ.perm (List.Perm.swap _ _ _)).unpack
 have aU:SH w K (List.flatMap F5.gs [s7 g [V3 A b d,V3 a n c] 30,a8D (S6 99 48 3 a n c lay)]) w K (s7 g [V3 A b d,V3 a n c] 30::a1Z 99 a n c lay::(lay).flatMap (L9.items 48 3)):=aT.perm (by rw [←List.cons_append];exact List.perm_append_singleton _ _ |>.symm)
 generalize hMM:(List.flatMap F5.gs [s7 g [V3 A b d,V3 a n c] 30,a8D (S6 99 48 3 a n c lay)])=MM at *
 refine ci func111 rfl ntmps111 (sr (bx rfl aU fun i w5 hS3'=>?_))
 have aW:SH w K MM w5 K (s7 i [sv q1] 9::s7 g [V3 A b d,V3 a n c] 30::a1Z 99 a n c lay::(lay).flatMap (L9.items 48 3)):=hS3'
 refine bx rfl aW fun f w6 hS4'=>?_
 have au:SH w K MM w6 K (s7 f [sv q2.Text,V6 q2.At] 107::s7 i [sv q1] 9::s7 g [V3 A b d,V3 a n c] 30::a1Z 99 a n c lay::(lay).flatMap (L9.items 48 3)):=hS4'
 refine nr (mv rfl (lv (B7 rfl) (fl M2 rfl a1e m2 au rfl (lv (b2e (vs:=[pt i,pt f]) rfl) ?_))))
 obtain⟨gs,hgs⟩: ∃gs,gs=(a1Z 99 a n c lay::(lay).flatMap (L9.items 48 3)).flatMap F5.gs:=⟨_,rfl⟩
 have s:SH w K MM w6 K ([s7 i [sv q1] 9,s7 f [sv q2.Text,V6 q2.At] 107]++(s7 g [V3 A b d,V3 a n c] 30::a1Z 99 a n c lay::(lay).flatMap (L9.items 48 3))):=au.perm (List.Perm.swap _ _ _)
 have hnd:=s.nodup
 rw [List.flatMap_append,List.nodup_append,List.flatMap_cons] at hnd
 have hg56:i∉gs∧f∉gs:=by
  rw [hgs]
  exact⟨fun hb=>hnd.2.2 i (by simp [s7,Go.Fk.one]) i (List.mem_append_right _ hb) rfl,fun hb=>hnd.2.2 f (by simp [s7,Go.Fk.one]) f (List.mem_append_right _ hb) rfl⟩
 have hseg:=c2j (TE:=99) (TP:=48) (TI:=3) (gs:=gs) s (fun it hi=>List.mem_append_right _ (List.mem_cons_of_mem _ hi)) (fun it hi b hb=>by rw [hgs];exact List.mem_flatMap.2 ⟨it,hi,hb⟩) U
 have hlnd:=s.lend (Kin:=b1K K w6 gs) (b5i s.holds) (fun it hi=>by
  rcases List.mem_cons.1 hi with rfl | hi
  ·exact b9b (s.items _ (List.mem_cons_self ..)) hg56.1
  rcases List.mem_singleton.1 hi with rfl
  exact b9b (s.items _ (List.mem_cons_of_mem _ (List.mem_cons_self ..))) hg56.2)
 refine lk c5T (a2h F hlnd hseg.1 ap aq ag aM) ?_
 rintro e7 w7 ⟨K7,rfl,hS7',bz⟩
 have aX:SH w K MM w7 K ([s7 i [sv q1] 9,s7 f [sv q2.Text,V6 q2.At] 107]++(s7 g [V3 A b d,V3 a n c] 30::a1Z 99 a n c lay::(lay).flatMap (L9.items 48 3))):=s.lent (b39 s.holds) hS7' rfl (fun it hi=>by
  rcases List.mem_cons.1 hi with rfl | hi
  ·exact c14 (hS7'.items _ (List.mem_cons_self ..)) ((b39 s.holds).trans hS7'.le)
  rcases List.mem_singleton.1 hi with rfl
  exact c14 (hS7'.items _ (List.mem_cons_of_mem _ (List.mem_cons_self ..))) ((b39 s.holds).trans hS7'.le))
 have aj:SH w K MM w7 K (s7 f [sv q2.Text,V6 q2.At] 107::s7 i [sv q1] 9::s7 g [V3 A b d,V3 a n c] 30::a1Z 99 a n c lay::(lay).flatMap (L9.items 48 3)):=aX.perm (List.Perm.swap _ _ _)
 refine av rfl (O7 (mv rfl (lv (u7 rfl rfl) (nq (l4 (fun E' w'=>∃a2 l m lay2 D,E'=[(0,pt g),(3,V6 q3),(6,pt f),(8,V6 (cond (decide (k<0)) (q0.Entries.length:Int) k))]∧SH w K MM w' D (s7 f [sv q2.Text,V6 q2.At] 107::s7 i [sv q1] 9::s7 g [V3 A b d,V3 a2 l m] 30::a1Z 99 a2 l m lay2::(lay2).flatMap (L9.items 48 3))∧M0 K D∧a7A lay2 es) ?_ ?_)))))
 ·refine R9 rfl (fun hb=>?_) (fun hb=>?_)
  ·rw [hb] at B ⊢
   simp only [j4] at B ⊢
   refine sr (mv rfl (lv (B7 rfl) (fl M2 rfl a1e m2 aj rfl (lv (a69 underlying28 rfl hseg.2) (av rfl (nq ?_))))))
   have G:=aj.drew
   refine wh1 (fun w'=>H0 K w'∧B0 i [sv q1] w'∧B0 f [sv q2.Text,V6 q2.At] w') (fun w'=>B0 g [V3 A b d,V3 a n c] w') 13 [(4,10),(10,13)] mixed ⟨G.hasK kr,G.hasObj m1,G.hasObj m0⟩ (fun _=>G.hasObj (.tail _ (.tail _ (.head _)))) (gt (i5 rfl) (gt (i5 rfl) (gt (B7 rfl) (gt (c7 M2 rfl) (gf (fun _ h=>B5 a1e rfl rfl h) (gh (fun _ h=>B5 G7 rfl rfl h.2.1) (gt (c7 a3Z rfl) (gh (fun _ h=>B5 G7 rfl rfl h.2.2) (gt (C3 (cs:=#[sv q1,sv q2.Text,V3 none 0 0]) c6N P2 rfl (by kernel_rfl)) ?_)))))))))
   refine gn (J2 (t:=c04 3) (n:=1) (pv:=[(0,.agg #[sv q1,sv q2.Text,V3 none 0 0])]) (cs:=[sv q1,sv q2.Text,V3 none 0 0]) (xs:=[([sv q1,sv q2.Text,V3 none 0 0]:List Value)]) wn rfl underlying28 P2 rfl rfl rfl (by kernel_rfl) rfl rfl (H5 (t:=c04 3) (u:=.agg #[sv q1,sv q2.Text,V3 none 0 0]) (z:=([sv q1,sv q2.Text,V3 none 0 0]:List Value)) ⟨rfl,rfl,by simp [Value.oneCell',sv]⟩ a1W) G fun a9 w9 K9 W ay hS9'=>?_)
   obtain⟨b9,o9,rfl⟩:=b7n ay
   have aZ:=b9p ay
   have H:=hS9'.drop
   refine i8 (qh ⟨H.hasK W,H.hasObj m1,H.hasObj m0⟩ (fun _=>H.hasObj (.tail _ (.tail _ (.head _)))) ?_)
   unfold O2 at B
   split at B
   case isFalse=>cases B
   rename_i hbd
   cases B
   have hnl:n=q0.Entries.length:=hseg.2
   have hS9t:SH w K MM w9 K9 (Z5 (V3 a n c) (lay.flatMap L9.cells) 99 3::(s7 f [sv q2.Text,V6 q2.At] 107::s7 i [sv q1] 9::s7 g [V3 A b d,V3 a n c] 30::(lay).flatMap (L9.items 48 3))):=H.perm (List.perm_middle (l₁:=[_,_,_])).symm
   refine gn ?_
   have hcl9:(lay.flatMap L9.cells).length=n*3:=by rw [a41,←b4e hS9t (List.mem_cons_self ..)]
   refine a95 wn rfl underlying28 P2 rfl rfl rfl (by decide) rfl aZ (by simp [Value.oneCell',sv]) hcl9 (by simp at hbd;omega) (by simp at hbd;omega) hS9t fun X Y bD I=>(i8 (qh ⟨I.hasK W,I.hasObj m2,I.hasObj m1⟩ (fun _=>I.hasObj (.tail _ (.tail _ (.tail _ (.head _))))) (gt (B7 rfl) (gt (c7 M2 rfl) (gn (ls [V3 A b d,V3 (some ⟨X,0,none⟩) (n+1) Y] (V3 (some ⟨X,0,none⟩) (n+1) Y) a1e I.f3 fun ba aa=>(i8 (qh ⟨aa.hasK W,aa.hasObj m3,aa.hasObj m2⟩ (fun h=>by cases h) (gd' ?_)))))))))
   have bb:=SH.rowNil aa 48 2
   have bc:SH w K MM ba K9 (s7 f [sv q2.Text,V6 q2.At] 107::s7 i [sv q1] 9::s7 g [V3 A b d,V3 (some ⟨X,0,none⟩) (n+1) Y] 30::a1Z 99 (some ⟨X,0,none⟩) (n+1) Y (lay++[L9.mk q1 q2.Text [] none 0 0])::((lay++[L9.mk q1 q2.Text [] none 0 0])).flatMap (L9.items 48 3)):=by
    have e1:(lay++[L9.mk q1 q2.Text [] none 0 0]).flatMap L9.cells=lay.flatMap L9.cells++[sv q1,sv q2.Text,V3 none 0 0]:=by rw [List.flatMap_append];rfl
    have e2:((lay++[L9.mk q1 q2.Text [] none 0 0])).flatMap (L9.items 48 3)=(lay).flatMap (L9.items 48 3)++[Z5 (V3 none 0 0) [] 48 2]:=by rw [List.flatMap_append];rfl
    unfold a1Z
    rw [e1,e2]
    exact bb.perm ((show List.Perm ((_::_::_::_::(lay).flatMap (L9.items 48 3))++[_]) _ from List.perm_append_singleton _ _).trans (.cons _ (List.Perm.append_right ((lay).flatMap (L9.items 48 3)) (List.perm_append_comm (l₁:=[_,_]) (l₂:=[_,_])))))
   refine L6 ⟨_,_,_,_,K9,rfl,bc,W,fun x hx=>?_,?_⟩ ⟨rfl,rfl,rfl,rfl,trivial⟩
   ·rcases List.mem_append.1 hx with hx | hx
    ·exact U.1 x hx
    rcases List.mem_singleton.1 hx with rfl
    exact⟨ap,aq,by simp⟩
   rw [List.map_append,U.2];rfl
  rw [hb] at B ⊢
  simp only [i6] at B ⊢
  cases oi B
  exact j3 (qd ⟨a,n,c,lay,K,rfl,aj,.refl _,U⟩)
 rintro _ az ⟨a2,l,m,lay2,D,rfl,am,aA,hlay2⟩
 generalize hkk:(cond (decide (k<0)) (q0.Entries.length:Int) k)=kk at *
 obtain⟨hok2,hes⟩:=hlay2
 obtain⟨el,aB,hel⟩:=b7x (hes▸ar:v8 (lay2.map L9.x) kk=some en)
 obtain⟨pre,post,hsplit,hpre,bE⟩:=c2k aB
 have hn2:=b4e am m3
 have hn2e:l=es.length:=by rw [←hes,List.length_map];exact hn2
 obtain⟨gE,rfl⟩:=SH.rowI_at am m3 hn2 aB
 obtain⟨R,hR⟩: ∃R,R=((pre).flatMap (L9.items 48 3)++(post).flatMap (L9.items 48 3)):=⟨_,rfl⟩
 have y:SH w K MM az D (s7 f [sv q2.Text,V6 q2.At] 107::s7 i [sv q1] 9::s7 g [V3 A b d,V3 (some ⟨gE,0,none⟩) l m] 30::a1Z 99 (some ⟨gE,0,none⟩) l m (pre++el::post)::L9.row 48 el::(el.posts.map (Y5.item 3)++R)):=by
  rw [hR]
  have J:=am
  rw [hsplit] at J
  exact J.perm ((List.Perm.append_left [_,_,_] (b5j (TE:=99) (TP:=48) (TI:=3))).symm)
 have helok:el.ok:=hok2 el (by rw [hsplit];simp)
 have hnP:el.n=el.posts.length:=b4c y m4
 have hhead:=b4a (pre:=pre) (post:=post) (e:=el) (o:=kk.toNat*3+2) (by rw [hpre])
 have hpl:el.posts.length≤maxLen:=b7q y m4 hnP
 have henp:en.Posts=el.posts.map Y5.x:=by rw [←hel];rfl
 refine qr (mv rfl (lv (B7 rfl) (fl M2 rfl a1e m2 y rfl (mv rfl (lv (a5Q (t:=B8) underlying28 P2 rfl rfl rfl hn2e ar) (av rfl (nr (mv rfl (lv (B7 rfl) ?_)))))))))
 refine fa Y0 rfl (lv (a4Y a5B rfl rfl hhead rfl (y.hasRow (.tail _ (.tail _ (.tail _ (.head _)))))) (lv (a69 underlying37 rfl hnP) (lv (I6 rfl rfl) (av rfl (ns (o4 (l4 (fun E' w'=>E'=[(3,V6 q3),(6,pt f),(9,.pointer (some ⟨gE,kk.toNat*B8.size,none⟩)),(10,V6 (z8 ((el.posts.length:Int)-1))),(62,.bool (R0 en.Posts q3))]∧w'=az) ?_ ?_)))))))
 ·refine j5 (mv rfl (lv (u7 rfl rfl) (mv rfl ?_)))
  rcases List.eq_nil_or_concat el.posts with hnil | ⟨ps0,p0,hcat⟩
  ·have hb:decide (z8 ((el.posts.length:Int)-1)<0)=true:=by rw [b3e hpl,hnil];rfl
   have hnp:R0 en.Posts q3=true:=by rw [henp,hnil];rfl
   rw [hnp]
   iterate 10 refine lu hb ?_
   refine lv (J6 rfl hb rfl) (i8 ?_)
   exact qd ⟨rfl,rfl⟩
  rw [List.concat_eq_append] at hcat
  have hlp:el.posts.length=ps0.length+1:=by rw [hcat];simp
  have hw:z8 ((el.posts.length:Int)-1)=(ps0.length:Int):=by rw [b3e hpl,hlp];omega
  have hb:decide (z8 ((el.posts.length:Int)-1)<0)=false:=by rw [hw];exact c6 (by omega)
  have hnp:R0 en.Posts q3= !(p0.doc==q3):=by rw [henp,hcat,List.map_append];simp [R0,Y5.x]
  rw [hnp]
  have hzp:v8 en.Posts (z8 ((el.posts.length:Int)-1))=some p0.x:=by rw [henp,hcat,List.map_append];exact b56 (by rw [←hcat,hw];simp)
  have hnPe:el.n=en.Posts.length:=by rw [henp,List.length_map];exact hnP
  obtain⟨gP,hgP⟩:=SH.rowI_at y m4 hnPe hzp
  have hdoc:(el.posts.flatMap Y5.cells)[(z8 ((el.posts.length:Int)-1)).toNat*2+0]? =some (V6 p0.doc):=by rw [hcat];exact b4b (k:=0) (by rw [←hcat,hw];simp)
  refine lg hb (i5 rfl) (lg hb (B7 rfl) (lg hb (c7 Y0 rfl) (lg hb (a4Y a5B rfl rfl hhead rfl (y.hasRow (.tail _ (.tail _ (.tail _ (.head _)))))) (lg hb (i5 rfl) (lg hb (a5Q (t:=S2) underlying37 a02 rfl rfl hgP hnPe hzp) (lg hb (c7 a5U rfl) (lg hb (a4Y E6 rfl rfl hdoc hgP (y.hasRow (.tail _ (.tail _ (.tail _ (.tail _ (.head _))))))) (lg hb (i5 rfl) (lg hb (R2 rfl rfl) ?_)))))))))
  refine lv (l9 rfl hb rfl) (i8 ?_)
  exact qd ⟨rfl,rfl⟩
 rintro _ _ ⟨rfl,rfl⟩
 refine l5 (l4 (fun E' w'=>∃el2 ps0 pl K3,E'=[(6,pt f),(9,.pointer (some ⟨gE,kk.toNat*B8.size,none⟩)),(10,V6 (ps0.length:Int))]∧SH w K MM w' K3 (s7 f [sv q2.Text,V6 q2.At] 107::s7 i [sv q1] 9::s7 g [V3 A b d,V3 (some ⟨gE,0,none⟩) l m] 30::a1Z 99 (some ⟨gE,0,none⟩) l m (pre++el2::post)::L9.row 48 el2::(pl.item 3::(ps0.map (Y5.item 3)++R)))∧M0 K K3∧el2.ok∧el2.field=el.field∧el2.term=el.term∧el2.posts=ps0++[pl]∧ps=el2.posts.map Y5.x) ?_ ?_)
 ·refine R9 rfl (fun hb=>?_) (fun hb=>?_)
  ·rw [hb] at C
   simp only [j4] at C
   refine sr (mv rfl (mv rfl (lv (B7 rfl) (fa Y0 rfl (lv (a4Y a5B rfl rfl hhead rfl (y.hasRow (.tail _ (.tail _ (.tail _ (.head _)))))) (mv rfl (lv (C3 (cs:=#[V6 q3,V3 none 0 0]) c5i a02 rfl (by kernel_rfl)) (J2 (t:=c04 2) (n:=1) (pv:=[(0,.agg #[V6 q3,V3 none 0 0])]) (cs:=[V6 q3,V3 none 0 0]) (xs:=[([V6 q3,V3 none 0 0]:List Value)]) wn rfl underlying37 a02 rfl rfl rfl (by kernel_rfl) rfl rfl (H5 (t:=c04 2) (u:=.agg #[V6 q3,V3 none 0 0]) (z:=([V6 q3,V3 none 0 0]:List Value)) ⟨rfl,rfl,by simp [Value.oneCell']⟩ a1W) y fun bF bG aC bd aD hS22'=>?_))))))))
   obtain⟨bH,bI,rfl⟩:=b7n aD
   have be:=b9p aD
   have bf:=hS22'.drop
   unfold O2 at C
   split at C
   case isFalse=>cases C
   rename_i hbd
   cases C
   have hbd2:(el.n+1)*32≤140737488355328:=by rw [henp] at hbd;simp at hbd;rw [hnP];exact hbd
   refine a95 wn rfl underlying37 a02 rfl rfl rfl (by decide) rfl be (by simp [Value.oneCell']) (by rw [a40,hnP]) (by omega) hbd2 bf.f4 fun aE c24 bJ bg=>(lv (B7 rfl) (fa Y0 rfl (b5w wn a5B rfl rfl rfl bg.f4 (by have:=(i4.1 hhead).1;exact this) ?_)))
   intro bh bi
   refine nq (j5 (mv rfl (lv (y7 rfl rfl) (lv (b9v rfl (congrArg (Value.int .i64) (c3C hpl))) (i8 ?_)))))
   obtain⟨el2,hel2⟩: ∃el2:L9,el2=⟨el.field,el.term,el.posts++[⟨q3,[],none,0,0⟩],some ⟨aE,0,none⟩,el.n+1,c24⟩:=⟨_,rfl⟩
   have hset:=b7y (pre:=pre) (post:=post) (e:=el) (e':=el2) (o:=kk.toNat*3+2) (by rw [hpre]) (by rw [hel2]) (by rw [hel2])
   have bj:SH w K MM bh aC (Z5 (V3 (some ⟨gE,0,none⟩) l m) ((pre++el2::post).flatMap L9.cells) 99 3::L9.row 48 el2::s7 f [sv q2.Text,V6 q2.At] 107::s7 i [sv q1] 9::s7 g [V3 A b d,V3 (some ⟨gE,0,none⟩) l m] 30::(el.posts.map (Y5.item 3)++R)):=by
    have e1:el2.posts.flatMap Y5.cells=el.posts.flatMap Y5.cells++[V6 q3,V3 none 0 0]:=by rw [hel2,List.flatMap_append];rfl
    have e2:el2.a=some ⟨aE,0,none⟩:=by rw [hel2]
    have e3:el2.n=el.n+1:=by rw [hel2]
    have e4:el2.c=c24:=by rw [hel2]
    rw [←hset]
    unfold L9.row
    rw [e1,e2,e3,e4]
    exact bi
   have bk:=SH.rowNil bj 3 1
   refine L6 ⟨el2,el.posts,⟨q3,[],none,0,0⟩,aC,rfl,bk.perm ?_,aA.trans bd,?_,by rw [hel2],by rw [hel2],by rw [hel2],?_⟩ ⟨rfl,rfl,rfl,trivial⟩
   ·exact(List.Perm.append_left [_,_,_,_,_] (List.Perm.refl _)).trans ((List.perm_middle (l₁:=[_,_,_,_,_])).trans (.cons _ (List.Perm.append_right _ (List.perm_append_comm (l₁:=[_,_,_]) (l₂:=[_,_])))))
   ·rw [hel2]
    refine⟨helok.1,helok.2.1,fun q hq=>?_⟩
    rcases List.mem_append.1 hq with hq | hq
    ·exact helok.2.2 q hq
    rcases List.mem_singleton.1 hq with rfl
    exact⟨aL,by simp⟩
   rw [hel2,henp,List.map_append];rfl
  rw [hb] at C
  simp only [i6] at C
  cases oi C
  refine j3 ?_
  rcases List.eq_nil_or_concat el.posts with hnil | ⟨ps0,p0,hcat⟩
  ·rw [henp,hnil] at hb;cases hb
  rw [List.concat_eq_append] at hcat
  have hlp:el.posts.length=ps0.length+1:=by rw [hcat];simp
  have hw:z8 ((el.posts.length:Int)-1)=(ps0.length:Int):=by rw [b3e hpl,hlp];omega
  rw [hw]
  refine L6 ⟨el,ps0,p0,D,rfl,?_,aA,helok,rfl,rfl,hcat,henp⟩ ⟨rfl,rfl,rfl,trivial⟩
  have J:=y
  rw [hcat] at J
  exact J.perm (List.Perm.append_left [_,_,_,_,_] (b31 (TI:=3)).symm)
 rintro _ bK ⟨el2,ps0,pl,K3,rfl,ac,bl,hel2ok,hf2,ht2,hcat2,hps⟩
 refine l5 ?_
 have hpx:p=pl.x:=by rw [hps,hcat2,List.map_append] at ah;simp at ah;exact ah.symm
 have hn30:el2.n=el2.posts.length:=b4c ac m4
 have bm:v8 el2.posts (ps0.length:Int)=some pl:=by rw [hcat2];exact b56 rfl
 obtain⟨gP,hgP⟩:=SH.rowI_at ac m4 hn30 bm
 have hpn:pl.n=pl.at_.length:=b7A ac m5
 have hhead2:=b4a (pre:=pre) (post:=post) (e:=el2) (o:=kk.toNat*3+2) (by rw [hpre])
 have aF:v8 (el2.posts.map Y5.x) (ps0.length:Int)=some pl.x:=by rw [hcat2,List.map_append];exact b56 (by simp)
 have hn31:el2.n=(el2.posts.map Y5.x).length:=by rw [List.length_map];exact hn30
 have hat:(el2.posts.flatMap Y5.cells)[(ps0.length:Int).toNat*2+1]? =some (V3 pl.a pl.n pl.c):=by rw [hcat2];exact b4b (k:=1) (by simp)
 have O:=ac.drew
 refine wh1 (fun w'=>H0 K3 w'∧a9N (some ⟨gE,0,none⟩) ((pre++el2::post).flatMap L9.cells) w'∧B0 f [sv q2.Text,V6 q2.At] w') (fun w'=>a9N el2.a (el2.posts.flatMap Y5.cells) w') 19 [(12,16),(16,19)] mixed ⟨O.hasK kr,O.hasRow m3,O.hasObj m0⟩ (fun _=>O.hasRow (.tail _ (.tail _ (.tail _ (.tail _ (.head _)))))) (gt (i5 rfl) (gt (B7 rfl) (gt (c7 Y0 rfl) (gh (fun _ h=>a4Y a5B rfl rfl hhead2 rfl h.2.1) (gt (i5 rfl) (gt (i5 rfl) (gt (B7 rfl) (gt (c7 Y0 rfl) (gh (fun _ h=>a4Y a5B rfl rfl hhead2 rfl h.2.1) ?_)))))))))
 refine gt (i5 rfl) (gt (a5Q (t:=S2) underlying37 a02 rfl rfl hgP hn31 aF) (gt (c7 a4M rfl) (gf (fun _ h=>a4Y a1g rfl rfl hat hgP h) (gt (c7 a30 rfl) (gh (fun _ h=>B5 E6 rfl rfl h.2.2) (gn (lb D6 (V6 q2.At) [V6 q2.At] q2.At underlying46 E6 ⟨rfl,ag⟩ O fun bL bM ad ae aG hS35'=>?_)))))))
 obtain⟨bN,bO,rfl⟩:=c3B aG
 have bn:=c3c aG
 have S:=hS35'.drop
 refine i8 (qh ⟨S.hasK ae,S.hasRow m3,S.hasObj m0⟩ (fun _=>S.hasRow (.tail _ (.tail _ (.tail _ (.tail _ (.head _)))))) (gn ?_))
 unfold O2 at V
 split at V
 case isFalse=>cases V
 rename_i hbd
 cases V
 have hbd2:(pl.n+1)*8≤140737488355328:=by rw [hpx] at hbd;simp [Y5.x] at hbd;rw [hpn];exact hbd
 refine a95 wn rfl underlying46 E6 rfl rfl rfl (by decide) rfl bn (by simp [Value.oneCell']) (by rw [List.length_map,hpn,Nat.mul_one]) (by omega) hbd2 S.f5 fun aH c37 bP T=>(i8 (qh ⟨T.hasK ae,T.hasRow m4,T.hasObj m1⟩ (fun _=>T.hasRow (.tail _ (.tail _ (.tail _ (.tail _ (.tail _ (.head _))))))) (gt (a5Q (t:=S2) underlying37 a02 rfl rfl hgP hn31 aF) (gt (c7 a4M rfl) (gn ?_)))))
 obtain⟨fl2,tm2,po2,a2',m2',c2'⟩:=el2
 simp only at hgP hat hcat2 hf2 ht2 hn30
 subst hgP
 refine b5w wn a1g rfl rfl rfl T.f5 (by have:=(i4.1 hat).1;exact this) ?_
 intro ao af
 refine i8 (qh ⟨af.hasK ae,af.hasRow m5,af.hasObj m2⟩ (fun h=>by cases h) (gd' ?_))
 subst hR
 subst hcat2
 obtain⟨pl2,hpl2⟩: ∃pl2:Y5,pl2=⟨pl.doc,pl.at_++[q2.At],some ⟨aH,0,none⟩,pl.n+1,c37⟩:=⟨_,rfl⟩
 obtain⟨el3,hel3⟩: ∃el3:L9,el3=⟨fl2,tm2,ps0++[pl2],some ⟨gP,0,none⟩,m2',c2'⟩:=⟨_,rfl⟩
 have bo:SH w K MM ao ad (L9.row 48 el3::pl2.item 3::s7 f [sv q2.Text,V6 q2.At] 107::s7 i [sv q1] 9::s7 g [V3 A b d,V3 (some ⟨gE,0,none⟩) l m] 30::a1Z 99 (some ⟨gE,0,none⟩) l m (pre++el3::post)::(ps0.map (Y5.item 3)++((pre).flatMap (L9.items 48 3)++(post).flatMap (L9.items 48 3)))):=by
  have e1:=b7C (ps:=ps0) (p:=pl) (p':=pl2) (o:=(ps0.length:Int).toNat*2+1) (by simp) (by rw [hpl2])
  have e2:pl2.a=some ⟨aH,0,none⟩:=by rw [hpl2]
  have e3:pl2.n=pl.n+1:=by rw [hpl2]
  have e4:pl2.c=c37:=by rw [hpl2]
  have e5:pl2.at_.map b5L=pl.at_.map b5L++[V6 q2.At]:=by rw [hpl2,List.map_append];rfl
  have e6:(pre++el3::post).flatMap L9.cells=(pre++⟨fl2,tm2,ps0++[pl],some ⟨gP,0,none⟩,m2',c2'⟩::post).flatMap L9.cells:=by rw [hel3,List.flatMap_append,List.flatMap_append,List.flatMap_cons,List.flatMap_cons];rfl
  have e7:L9.row 48 el3=Z5 (V3 (some ⟨gP,0,none⟩) m2' c2') ((ps0++[pl2]).flatMap Y5.cells) 48 2:=by rw [hel3];rfl
  rw [e7,←e1]
  unfold a1Z
  rw [e6]
  show SH w K MM ao ad (_::Z5 (V3 pl2.a pl2.n pl2.c) (pl2.at_.map b5L) 3 1::_)
  rw [e2,e3,e4,e5]
  exact af
 have br:=bo.sublist (.cons_cons _ (.cons_cons _ (.cons _ (.cons _ (List.Sublist.refl _)))))
 have hpo3:el3.posts=ps0++[pl2]:=by rw [hel3]
 have bs:SH w K MM ao ad (S6 99 48 3 (some ⟨gE,0,none⟩) l m (pre++el3::post)++[s7 g [V3 A b d,V3 (some ⟨gE,0,none⟩) l m] 30]):=by
  refine br.perm ((List.perm_append_singleton _ _).trans ((List.Perm.cons _ (b5j (TE:=99) (TP:=48) (TI:=3))).trans ?_))
  rw [hpo3]
  exact(List.Perm.append_left [_,_,_] (b31 (TI:=3))).trans (List.Perm.append_right _ (List.perm_append_comm (l₁:=[_,_]) (l₂:=[_,_])))
 have bu:=bs.packUp.perm (List.Perm.swap _ _ _)
 refine b4K (S7 (vs:=[]) results111 trivial ⟨A,b,d,some ⟨gE,0,none⟩,l,m,pre++el3::post,ad,rfl,bu,aK.mono (bl.trans ae),?_,?_⟩)
 ·intro x hx
  rw [hsplit] at hok2
  rcases List.mem_append.1 hx with hx | hx
  ·exact hok2 x (List.mem_append_left _ hx)
  rcases List.mem_cons.1 hx with rfl | hx
  ·rw [hel3,hpl2]
   refine⟨hel2ok.1,hel2ok.2.1,fun q hq=>?_⟩
   rcases List.mem_append.1 hq with hq | hq
   ·exact hel2ok.2.2 q (List.mem_append_left _ hq)
   rcases List.mem_singleton.1 hq with rfl
   have h8:=hel2ok.2.2 pl (List.mem_append_right _ (List.mem_singleton.2 rfl))
   refine⟨h8.1,fun z hz=>?_⟩
   rcases List.mem_append.1 hz with hz | hz
   ·exact h8.2 z hz
   rcases List.mem_singleton.1 hz with rfl
   exact ag
  exact hok2 x (List.mem_append_right _ (List.mem_cons_of_mem _ hx))
 show _=es.set kk.toNat _
 rw [←hes,hsplit,List.map_append,List.map_cons,List.map_append,List.map_cons,List.set_append_right _ _ (by rw [List.length_map,hpre];exact Nat.le_refl _),List.length_map,hpre,Nat.sub_self,List.set_cons_zero]
 have e1:el3.x=C0.mk en.Field en.Term (ps.dropLast++[F7.mk p.Doc (p.At++[q2.At])]):=by
  rw [hel3,hps,hpx,hpl2,←hel]
  simp [L9.x,Y5.x,hf2,ht2]
 rw [e1]

theorem a9B {q0:List Int}{r:Int}(hS:SH w K [] w K [])(k:b7 D6 K A a b q0)(hm:a0L F q0=some r):
  Calls prog 114 #[V3 A a b] w (R_i w K r):=by
 rw [a0L] at hm
 refine ci func114 u ntmps114 (sr (lv (N2 u) (nr (lv (N2 u) (O7 (mv u (lv (q9 underlying46 u k) (lv (r_m u) (nq ?_)))))))))
 obtain⟨s,x,d⟩:=ob hm
 refine l4 (IE s w K [] K [(3,V6 0)] []) ?_ ?_
 ·refine j7 ?_
  obtain⟨aa,y,m⟩:=ob x
  refine qf (fun (o:Nat) (q:Unit)=>IV w K [] K [(3,V6 0),(6,V3 A a b),(7,V6 (q0.length:Int)),(8,V6 ((o:Nat):Int))] []) y ⟨K,u,hS,kr⟩ ?_ ?_
  ·rintro o q _ B ab hi23 C D ⟨f,rfl,c,i⟩
   refine sr (lv (u7 u u) (ns (C9 u (b8 (by omega)) (j3 (l5 (o4 (j7 (sr ?_))))))))
   obtain⟨G,H,I⟩:=ob C
   refine li underlying46 E6 (k.mono i) H fun J O ac R S=>?_
   obtain⟨rfl,T⟩:=R
   have U:F1 _ J O [V6 G]:=S
   refine lv (y9 E6 u c (U 0 _ u)) (av u (nr (mv u (mv u (lv (R2 u u) (nq (D5 I u (fun V l=>?_) (fun V l=>?_))))))))
   ·refine sr (mv u (av u (nq (j9 (i9 (c9 (c9 ?_)))))))
    cases oi l
    cases D _ u
    refine i9 (c9 ?_)
    cases oi m
    refine c9 ?_
    cases oi d
    exact ey results114 ⟨f,u,c,T⟩
   refine j3 (x8 (qg (lv (B6 u u (C6 hi23 (b7.max k))) (mv u (i8 ?_)))))
   cases oi l
   exact qd ⟨_,u,f,u,c,i⟩
  rintro q _ B W ⟨f,rfl,c,i⟩
  subst W
  refine sr (lv (u7 u u) (ns (C8 u (c6 (by omega)) (y4 (g8 (g8 (l6 ?_)))))))
  cases oi m
  exact qd ⟨_,f,u,u,c,i⟩
 rintro _ ad ⟨s8,X,rfl,rfl,Y,af⟩
 have d:=E9 d
 refine qr (mv u (av u (nq (j9 ?_))))
 cases oi d
 exact ey results114 ⟨X,u,Y,I5⟩

theorem a5D {q0:r4}{r:Bool}(hS:SH w K [] w K [])(a:q0.length≤maxLen)(hm:U7 F q0=some r):
  Calls prog 156 #[sv q0] w (R_b w K r):=by
 rw [U7] at hm
 refine ci func156 u ntmps156 (sr (lv (O6 u) (nr (mv u (mv u (lv (a2C u u) (av u (nq (j9 ?_)))))))))
 cases oi hm
 exact ey results156 ⟨K,u,hS⟩

theorem a4H {q0:r4}{q1:r4}{r:Int}(hS:SH w K [] w K [])(m:q0.length≤maxLen)(o:q1.length≤maxLen)(hm:S4 F q0 q1=some r):
  Calls prog 115 #[sv q0,sv q1] w (R_i w K r):=by
 rw [S4] at hm
 refine ci func115 u ntmps115 (sr (lv (N2 u) (nr (mv u ?_))))
 obtain⟨J,q,s⟩:=ob hm
 refine lk c3W (a5D F hS.enter0 m q) ?_
 rintro O R ⟨S,rfl,x⟩
 have l:=(hS.c0 x).t0
 refine av u (nr (mv u ?_))
 obtain⟨T,y,A⟩:=ob s
 refine lk c3W (a5D F l.enter0 o y) ?_
 rintro U V ⟨a,rfl,B⟩
 have b:=(l.c0 B).t0
 refine av u (O7 (mv u (nq (D5 A u (fun C c=>?_) (fun C c=>?_)))))
 ·refine o4 (sr (mv u (nq (D5 c u (fun D d=>?_) (fun D d=>?_)))))
  ·refine sr (lv (N2 u) (nq (rr (c9 ?_))))
   cases oi d
   exact ey results115 ⟨a,u,b,I5⟩
  refine j3 (qr (lv (u9 (v:=V6 (-1)) u) (nq (rr ?_))))
  cases oi d
  exact ey results115 ⟨a,u,b,(by decide :i7 (-1))⟩
 refine j3 (qs (sr (mv u (nq (D5 c u (fun G f=>?_) (fun G f=>?_))))))
 ·refine sr (lv (u9 (v:=V6 1) u) (nq (rr ?_)))
  cases oi f
  exact ey results115 ⟨a,u,b,(by decide :i7 1)⟩
 refine j3 (qs (sr (mv u (mv u (lv (b9A u u) (nq (D5 f u (fun H i=>?_) (fun H i=>?_))))))))
 ·refine sr (lv (u9 (v:=V6 (-1)) u) (nq (rr ?_)))
  cases oi i
  exact ey results115 ⟨a,u,b,(by decide :i7 (-1))⟩
 refine j3 (qs (sr (mv u (mv u (lv (c3w u u) (nq (D5 i u (fun I k=>?_) (fun I k=>?_))))))))
 ·refine sr (lv (u9 (v:=V6 1) u) (nq (rr ?_)))
  cases oi k
  exact ey results115 ⟨a,u,b,(by decide :i7 1)⟩
 refine j3 (qr (lv (N2 u) (nq (j9 ?_))))
 cases oi k
 exact ey results115 ⟨a,u,b,I5⟩

theorem b2w {q0:C0}{q1:C0}{r:Int}(hS:SH w K [] w K [])(H:q0.Field.length≤maxLen)(I:q0.Term.length≤maxLen)(ah:b7 S2 K A a b q0.Posts)(J:q1.Field.length≤maxLen)(O:q1.Term.length≤maxLen)(ai:b7 S2 K B c d q1.Posts)(hm:W3 F q0 q1=some r):
  Calls prog 113 #[.agg #[sv q0.Field,sv q0.Term,V3 A a b],.agg #[sv q1.Field,sv q1.Term,V3 B c d]] w (R_i w K r):=by
 rw [W3] at hm
 refine ci func113 rfl ntmps113 (sr (bx rfl hS fun y aj R=>?_))
 have S:SH _ _ _ _ _ [s7 y [sv q0.Field,sv q0.Term,V3 A a b] 99]:=R
 refine bx rfl S fun C ak T=>?_
 have U:SH _ _ _ _ _ [s7 C [sv q1.Field,sv q1.Term,V3 B c d] 99,_]:=T
 refine lv (N2 rfl) (ns ?_)
 have f:=U.drew
 refine j_0 (fun w'=>H0 K w'∧B0 y [sv q0.Field,sv q0.Term,V3 A a b] w'∧B0 C [sv q1.Field,sv q1.Term,V3 B c d] w') 13 [] mixed ⟨f.hasK kr,f.hasObj m1,f.hasObj m0⟩ (jv 0 rfl (c7 a3z rfl) (jh 1 rfl (fun _ h=>B5 G7 rfl rfl h.2.1) (jv 2 rfl (c7 a3z rfl) (jh 3 rfl (fun _ h=>B5 G7 rfl rfl h.2.2) (jv 5 rfl (c7 a21 rfl) (jh 6 rfl (fun _ h=>B5 G7 rfl rfl h.2.1) (jv 7 rfl (c7 a21 rfl) (jh 8 rfl (fun _ h=>B5 G7 rfl rfl h.2.2) (j1 4 rfl ?_)))))))))
 obtain⟨i,V,W⟩:=ob hm
 refine lk c3O (a4H F f.enter0 H J V) ?_
 rintro al am ⟨an,rfl,k,X⟩
 have l:=(f.c0 k).t2
 refine P0 ⟨l.hasK k.le,l.hasObj m1,l.hasObj m0⟩ (j1 9 rfl ?_)
 obtain⟨m,Y,aa⟩:=ob W
 refine lk c3O (a4H F l.enter0 I O Y) ?_
 rintro ao ap ⟨aq,rfl,q,ab⟩
 have s:=(l.c0 q).t2
 refine P0 ⟨s.hasK (k.le.trans q.le),s.hasObj m1,s.hasObj m0⟩ (j1 10 rfl (J2 (t:=D6) (n:=2) (pv:=[(0,V6 i),(1,V6 m)]) (cs:=[V6 i,V6 m]) (xs:=[i,m]) wn rfl underlying46 E6 rfl rfl rfl (by kernel_rfl) rfl rfl (H5 (u:=V6 i) (z:=i) ⟨rfl,X⟩ (H5 (u:=V6 m) (z:=m) ⟨rfl,ab⟩ a1W)) s fun ar au aw D ac o=>(P0 ⟨o.hasK ((k.le.trans q.le).trans D),o.hasObj m2,o.hasObj m1⟩ (j1 11 rfl ?_))))
 obtain⟨ax,ad,ae⟩:=ob aa
 refine lk c3N (a9B F o.enter0 ac ad) ?_
 rintro ay az ⟨af,rfl,G,ag⟩
 have x:=(o.c0 G).t3
 refine P0 ⟨x.hasK (((k.le.trans q.le).trans D).trans G.le),x.hasObj m2,x.hasObj m1⟩ (jv 12 rfl (u9 rfl) (jd (l5 (j9 ?_))))
 cases oi ae
 exact ey results113 ⟨af,rfl,x.s,ag⟩

theorem Q4 {q0:T0}{q1:r4}{q2:r4}{r:(List F7)}(hS:SH w K Z w K [s7 g1 [V3 A a b,V3 B c d,V3 C f i,V3 D k l] 113])(aC:b7 D9 K A a b q0.c_.Stops)(aD:b7 L0 K B c d q0.c_.Syns)(aE:b7 F6 K C f i q0.s_.Docs)(O:b7 B8 K D k l q0.s_.Entries)(aF:q1.length≤maxLen)(aG:q2.length≤maxLen)(hm:N7 F q0 q1 q2=some r):
  Calls prog 65 #[.pointer (some ⟨g1,2,none⟩),sv q1,sv q2] w fun e w'=>∃a_1 n_2 c_3 K',e= .returned (V3 a_1 n_2 c_3)∧SH w K Z w' K' [s7 g1 [V3 A a b,V3 B c d,V3 C f i,V3 D k l] 113]∧b7 S2 K' a_1 n_2 c_3 r:=by
 rw [N7] at hm
 refine ci func65 u ntmps65 (sr (lv (r_n u) (O7 (mv u (lv (B7 u) (fl M2 u a1e m0 hS u (lv (q9 underlying28 u O) (lv (r_m u) (nq ?_)))))))))
 obtain⟨ab,ac,s⟩:=ob hm
 refine l4 (IE ab w K Z K [(0,.pointer (some ⟨g1,2,none⟩))] [s7 g1 [V3 A a b,V3 B c d,V3 C f i,V3 D k l] 113]) ?_ ?_
 ·refine j7 ?_
  obtain⟨aH,ad,W⟩:=ob ac
  refine qf (fun (R:Nat) (X:Unit)=>IV w K Z K [(0,.pointer (some ⟨g1,2,none⟩)),(1,sv q1),(2,sv q2),(12,V3 D k l),(13,V6 (q0.s_.Entries.length:Int)),(14,V6 ((R:Nat):Int))] [s7 g1 [V3 A a b,V3 B c d,V3 C f i,V3 D k l] 113]) ad ⟨K,u,hS,kr⟩ ?_ ?_
  ·rintro R X _ ae aI hi38 af ag ⟨q,rfl,x,y⟩
   refine sr (lv (u7 u u) (ns (C9 u (b8 (by omega)) (j3 (l5 (o4 (j7 (sr ?_))))))))
   obtain⟨o,ah,ai⟩:=ob af
   refine li underlying28 P2 (O.mono y) ah fun aj ak aJ am an=>?_
   obtain⟨G,H,I,rfl,aK,aL,ao⟩:=am
   have ap:F1 _ aj ak [sv o.Field,sv o.Term,V3 G H I]:=an
   refine lv (F3 P2 u x ap u) (al P2 x fun S aM aq=>?_)
   have ar:SH _ _ _ _ _ [s7 S [sv [],sv [],V3 none 0 0] 99,_]:=aq
   refine lw [sv o.Field,sv o.Term,V3 G H I] P2 ar fun aN J=>(ns ?_)
   obtain⟨au,aw,ax⟩:=ob ai
   refine l4 (IV w K Z q [(0,.pointer (some ⟨g1,2,none⟩)),(1,sv q1),(2,sv q2),(8,pt S),(12,V3 D k l),(13,V6 (q0.s_.Entries.length:Int)),(14,V6 ((R:Nat):Int)),(27,.bool au)] [s7 g1 [V3 A a b,V3 B c d,V3 C f i,V3 D k l] 113,s7 S [sv o.Field,sv o.Term,V3 G H I] 99]) ?_ ?_
   ·refine j5 (fl a3z u G7 m0 J u (mv u (lv (J8 u u) (mv u (bt aw (fun m T=>?_) (fun m T=>?_))))))
    ·refine lg m (c7 a21 u) (lg m (w8 G7 u m0 J u) (lg m (i5 u) (lg m (J8 u u) (lv (n9 u m u) (i8 ?_)))))
     cases oi T
     exact qd ⟨q,u,J.f1,kr⟩
    refine lu m (lu m (lu m (lu m (lv (L8 u m u) (i8 ?_)))))
    cases oi T
    exact qd ⟨q,u,J.f1,kr⟩
   rintro _ aO ⟨Y,rfl,U,aa⟩
   refine l5 (D5 ax u (fun ay V=>?_) (fun ay V=>?_))
   ·refine sr (fl Y0 u a5B m1 U u (av u (nq (j9 (i9 (c9 (c9 ?_)))))))
    cases oi V
    cases ag _ u
    refine i9 (c9 ?_)
    cases oi W
    refine c9 ?_
    cases oi s
    exact ey results65 ⟨G,H,I,Y,u,U.s,(ao.mono aa)⟩
   refine j3 (x8 (qg (lv (B6 u u (C6 hi38 (b7.max O))) (mv u (i8 ?_)))))
   cases oi V
   exact qd ⟨_,u,Y,u,U.s,(y.trans aa)⟩
  rintro X _ ae az ⟨q,rfl,x,y⟩
  subst az
  refine sr (lv (u7 u u) (ns (C8 u (c6 (by omega)) (y4 (g8 (g8 (l6 ?_)))))))
  cases oi W
  exact qd ⟨_,q,u,u,x,y⟩
 rintro _ aP ⟨aQ,aA,rfl,rfl,aB,aR⟩
 have s:=E9 s
 refine qr (lv (r_n u) (nq (j9 ?_)))
 cases oi s
 exact ey results65 ⟨none,0,0,aA,u,aB,(b7.nil _ _)⟩

theorem a2w {q0:T0}{q1:r4}{q2:r4}{q3:Int}{r:(List Int)}(hS:SH w K Z w K [s7 g1 [V3 A a b,V3 B c d,V3 C f i,V3 D k l] 113])(V:b7 D9 K A a b q0.c_.Stops)(W:b7 L0 K B c d q0.c_.Syns)(X:b7 F6 K C f i q0.s_.Docs)(Y:b7 B8 K D k l q0.s_.Entries)(aa:q1.length≤maxLen)(ab:q2.length≤maxLen)(aJ:i7 q3)(hm:O9 F q0 q1 q2 q3=some r):
  Calls prog 128 #[.pointer (some ⟨g1,0,none⟩),sv q1,sv q2,V6 q3] w fun e w'=>∃a_1 n_2 c_3 K',e= .returned (V3 a_1 n_2 c_3)∧SH w K Z w' K' [s7 g1 [V3 A a b,V3 B c d,V3 C f i,V3 D k l] 113]∧b7 D6 K' a_1 n_2 c_3 r:=by
 rw [O9] at hm
 refine ci func128 u ntmps128 (sr (lv (r_n u) (O7 (mv u (lv (B7 u) (fa a6n u (mv u (mv u ?_))))))))
 obtain⟨ac,ad,ae⟩:=ob hm
 refine lk c1I (Q4 F hS.e1 V W X Y aa ab ad) ?_
 rintro aK aL ⟨af,ag,ah,y,rfl,ai,G⟩
 have aj:=(hS.c1 ai).t1
 refine lv (q9 underlying37 u G) (lv (r_m u) (nq ?_))
 obtain⟨ak,am,m⟩:=ob ae
 refine l4 (IE ak w K Z y [(0,pt g1)] [s7 g1 [V3 A a b,V3 B c d,V3 C f i,V3 D k l] 113]) ?_ ?_
 ·refine j7 ?_
  obtain⟨aM,an,R⟩:=ob am
  refine qf (fun (S:Nat) (T:Unit)=>IV w K Z y [(0,pt g1),(3,V6 q3),(16,V3 af ag ah),(17,V6 (ac.length:Int)),(18,V6 ((S:Nat):Int))] [s7 g1 [V3 A a b,V3 B c d,V3 C f i,V3 D k l] 113]) an ⟨y,u,aj,kr⟩ ?_ ?_
  ·rintro S T _ ao aN hi51 ap aq ⟨o,rfl,q,s⟩
   refine sr (lv (u7 u u) (ns (C9 u (b8 (by omega)) (j3 (l5 (o4 (j7 (sr ?_))))))))
   obtain⟨U,ar,au⟩:=ob ap
   refine li underlying37 a02 (G.mono s) ar fun aw ax aO ay az=>?_
   obtain⟨H,I,J,rfl,aP,aA⟩:=ay
   have aB:F1 _ aw ax [V6 U.Doc,V3 H I J]:=az
   refine lv (F3 a02 u q aB u) (al a02 q fun aC aQ aD=>?_)
   have aE:SH _ _ _ _ _ [s7 aC [V6 0,V3 none 0 0] 48,_]:=aD
   refine lw [V6 U.Doc,V3 H I J] a02 aE fun aR x=>(nr (fl a5U u E6 m0 x u (mv u (lv (A9 u u) (nq (D5 au u (fun aF O=>?_) (fun aF O=>?_)))))))
   ·refine sr (fl a4M u a1g m0 x u (av u (nq (j9 (i9 (c9 (c9 ?_)))))))
    cases oi O
    cases aq _ u
    refine i9 (c9 ?_)
    cases oi R
    refine c9 ?_
    cases oi m
    exact ey results128 ⟨H,I,J,o,u,x.s,aA⟩
   refine j3 (x8 (qg (lv (B6 u u (C6 hi51 (b7.max G))) (mv u (i8 ?_)))))
   cases oi O
   exact qd ⟨_,u,o,u,x.s,s⟩
  rintro T _ ao aG ⟨o,rfl,q,s⟩
  subst aG
  refine sr (lv (u7 u u) (ns (C8 u (c6 (by omega)) (y4 (g8 (g8 (l6 ?_)))))))
  cases oi R
  exact qd ⟨_,o,u,u,q,s⟩
 rintro _ aS ⟨aT,aH,rfl,rfl,aI,aU⟩
 have m:=E9 m
 refine qr (lv (r_n u) (nq (j9 ?_)))
 cases oi m
 exact ey results128 ⟨none,0,0,aH,u,aI,(b7.nil _ _)⟩
end Go.Proofs.YtnloenhmkdpgeaaGreatDoor
