/-
 Walks of the functions. Printed by gen.py.
-/
import Derived.Test.YtpjefkdclnmlfaaGreatWalkA2
import Derived.Test.YtpjefkdclnmlfaaGreatWalkA3
import Derived.Test.YtpjefkdclnmlfaaGreatWalkA4
import Derived.Test.YtpjefkdclnmlfaaGreatWalkA5
import Derived.Test.YtpjefkdclnmlfaaGreatWalkA6
set_option linter.unusedVariables false
set_option linter.unusedSectionVars false
set_option maxRecDepth 100000
namespace Go.Proofs.YtpjefkdclnmlfaaGreat
set_option maxHeartbeats 4000000
open Go Go.Fk Go.RowKit Tryz
variable (F:Nat){w:World}{K:KMap}{Z:List Nat}{g1 g2 g3:Nat}{A B C D G H I J O R S T:Option Addr}{a b c d f i k l m n o p q s v x y aa ab ac ad ae af ag:Nat}
variable [dr:Dr]

theorem ok_spec_l30Open {q0:List UInt8}{r:GL30Rd}(hS:SH w K [] w K [])(c:SliceAt tU8 K A a b q0)(hm:M.spec_l30Open F q0=some r):
  Calls prog 104 #[V3 A a b] w fun e w'=>∃g_1 a_2 n_3 c_4 K',e= .returned (.pointer (some ⟨g_1,0,none⟩))∧SH w K [] w' K' [obj g_1 [V3 a_2 n_3 c_4,V6 r.p_] 208]∧SliceAt tU8 K' a_2 n_3 c_4 r.b_∧rng64 r.p_:=by
 rw [M.spec_l30Open] at hm
 refine ci func104 u ntmps104 (sr (lv (rv_assign (v:=.pointer none) u) (nsr (mv u (lv (rv_len underlying69 u c) (lv (rv_gtr u u) (nq (wc_cond u (fun d=>?_) (fun d=>?_)))))))))
 ·have f:=cond_t d hm
  refine wc_region (mv u ?_)
  obtain⟨G,q,s⟩:=ob f
  refine wl_sl_h (t:=tU8) wn u underlying69 tf5 u u c q fun i k l x=>(av u (nr (mv u (lv (rv_build (cs:=#[V3 i k l,V6 0]) sp208 tf208 u (by kernel_rfl)) (bx u hS fun m H y=>?_)))))
  have B:SH _ _ _ _ _ [obj m [V3 i k l,V6 0] 208]:=y
  refine av u (nq (wc_ret ?_))
  cases oi s
  exact ey results104 ⟨m,i,k,l,K,u,B,x,d_0⟩
 have f:=cond_f d hm
 refine wc_skip (qr (mv u (lv (rv_build (cs:=#[V3 A a b,V6 0]) sp208 tf208 u (by kernel_rfl)) (bx u hS fun o I C=>?_))))
 have D:SH _ _ _ _ _ [obj o [V3 A a b,V6 0] 208]:=C
 refine av u (nq (wc_ret ?_))
 cases oi f
 exact ey results104 ⟨o,A,a,b,K,u,D,c,d_0⟩

theorem ok_spec_l30AnyText {q0:GL30Rd}{r:Str×GL30Rd}(hS:SH w K Z w K [obj g1 [V3 A a b,V6 q0.p_] 208])(o:SliceAt tU8 K A a b q0.b_)(q:rng64 q0.p_)(hm:M.spec_l30AnyText F q0=some r):
  Calls prog 226 #[.pointer (some ⟨g1,0,none⟩)] w fun e w'=>∃a_2 n_3 c_4 K',e= .returned (sv r.1)∧SH w K Z w' K' [obj g1 [V3 a_2 n_3 c_4,V6 r.2.p_] 208]∧r.1.length≤maxLen∧SliceAt tU8 K' a_2 n_3 c_4 r.2.b_∧rng64 r.2.p_:=by
 rw [M.spec_l30AnyText] at hm
 refine ci func226 u ntmps226 (sr (lv (r_s u) (nr (mv u ?_))))
 obtain⟨r7,s,x⟩:=ob hm
 refine lk co256 (ok_spec_l30Text F hS.e1 o q s) ?_
 rintro ak al ⟨am,an,ao,ap,rfl,y,B,C,D⟩
 have d:=(hS.c1 y).t1
 refine av u (nsr (mv u ?_))
 obtain⟨aq,G,H⟩:=ob x
 refine lk co106 (ok_spec_l30Rd_pick F d.e1 C D (by decide :rng64 12) G) ?_
 rintro ar au ⟨I,J,O,R,rfl,S,aw,f,i⟩
 have k:=(d.c1 S).t1
 refine lv (rv_eql u u) (nq (wcc H u (fun T c=>?_) (fun T c=>?_)))
 ·refine sr (mv u (mv u (bw [[10],[255],[48,49,50,51,52,53,54,55,56,57,32,48,49,50,51,52,53,54,55,56,57,32,48,49,50,51,52,53,54,55,56,57,32,48,49,50,51,52,53,54,55,56,57,32,48,49,50,51,52,53,54,55,56,57,32,48,49,50,51,52,53,54,55,56,57,32,48,49,50,51,52,53,54,55,56,57,32,48,49,50,51,52,53,54,55,56,57,32,48,49,50,51,52,53,54,55,56,57,32,48,49,50,51,52,53,54,55,56,57,32,48,49,50,51,52,53,54,55,56,57,32,48,49,50,51,52,53,54,55,56,57,32,48,49,50,51,52,53,54,55,56,57,32,48,49,50,51,52,53,54,55,56,57,32,48,49,50,51,52,53,54,55]] underlying22 tf9 k fun ax ay az U V W=>?_)))
  obtain⟨aA,X,Y⟩:=ob c
  have l:=W.f1
  refine lk co257 (ok_spec_l30Rd_of F l.e1 (f.mono U) i V X) ?_
  rintro aB aC ⟨aa,ab,ac,ad,rfl,ae,aD,af,ag⟩
  have ah:=(l.c1 ae).t2
  obtain⟨aE,m,ai⟩:=ob Y
  refine lv (rv_sadd u u m) (av u (nq (rr ?_)))
  cases oi ai
  exact ey results226 ⟨aa,ab,ac,ad,u,ah.s,(len_cat m),af,ag⟩
 refine wc_skip (qr (mv u (av u (nq (wc_ret ?_)))))
 cases oi c
 exact ey results226 ⟨I,J,O,R,u,k,B,f,i⟩

theorem ok_spec_l30AnyDoc {q0:GL30Rd}{r:GDoc×GL30Rd}(hS:SH w K Z w K [obj g1 [V3 A a b,V6 q0.p_] 208])(aS:SliceAt tU8 K A a b q0.b_)(aT:rng64 q0.p_)(hm:M.spec_l30AnyDoc F q0=some r):
  Calls prog 182 #[.pointer (some ⟨g1,0,none⟩)] w fun e w'=>∃a_2 n_3 c_4 a_6 n_7 c_8 a_10 n_11 c_12 K',e= .returned (.agg #[V6 r.1.Id,V3 a_2 n_3 c_4,V3 a_6 n_7 c_8])∧SH w K Z w' K' [tail (V3 a_2 n_3 c_4) 108 2,tail (V3 a_6 n_7 c_8) 142 2,obj g1 [V3 a_10 n_11 c_12,V6 r.2.p_] 208]∧rng64 r.1.Id∧SliceAt tGField K' a_2 n_3 c_4 r.1.Fields∧SliceAt tGAttr K' a_6 n_7 c_8 r.1.Nums∧SliceAt tU8 K' a_10 n_11 c_12 r.2.b_∧rng64 r.2.p_:=by
 rw [M.spec_l30AnyDoc] at hm
 refine ci func182 rfl ntmps182 (sr (al tf77 hS fun g7 w9 aV=>?_))
 have aW:SH _ _ _ _ _ [obj g7 [V6 0,V3 none 0 0,V3 none 0 0] 77,_]:=aV
 refine nr (mv rfl (mv rfl ?_))
 obtain⟨cr,aX,aY⟩:=ob hm
 have aC:=aW.f1
 refine lk co106 (ok_spec_l30Rd_pick F aC.e1 aS aT (by decide :rng64 9) aX) ?_
 rintro ct cu ⟨cv,cw,cx,cy,rfl,aZ,cz,ba,bb⟩
 have aD:=(aC.c1 aZ).t2
 refine lv (rv_add rfl rfl) ?_
 obtain⟨i,bc,bd⟩:=ob aY
 refine lk co225 (ok_spec_l30Doc F aD.e1 ba bb (w64_rng _) bc) ?_
 rintro cA cB ⟨k,l,m,c,d,f,cC,cD,cE,cF,rfl,be,X,C,D,bf,bg⟩
 have bh:=(aD.c1 be).t4
 refine al tf77 bh fun af cG bi=>?_
 have bj:SH _ _ _ _ _ [obj af [V6 0,V3 none 0 0,V3 none 0 0] 77,_,_,_,_]:=bi
 refine lw [V6 i.1.Id,V3 k l m,V3 c d f] tf77 bj fun cH bk=>(nsr (mv rfl ?_))
 obtain⟨cI,bl,bm⟩:=ob bd
 have aE:=bk.f3
 refine lk co106 (ok_spec_l30Rd_pick F aE.e1 bf bg (by decide :rng64 14) bl) ?_
 rintro cJ cK ⟨aF,aG,aH,ag,rfl,o,cL,G,H⟩
 have s:=(aE.c1 o).t5
 refine nq (wc_block (sr (lv (rv_eql rfl rfl) (av rfl (nq (wcc bm rfl (fun bn ah=>?_) (fun bn ah=>?_)))))))
 ·refine wc_region (mv rfl (wl_buildSlice (t:=tInt) (n:=3) (pv:=[(0,V6 0),(1,V6 10000),(2,V6 9999)]) (cs:=[V6 0,V6 10000,V6 9999]) (xs:=[(0:Int),(10000:Int),(9999:Int)]) wn rfl underlying71 tf3 rfl rfl rfl (by kernel_rfl) rfl rfl (lit_cons (u:=V6 0) (z:=(0:Int)) ⟨rfl,d_0⟩ (lit_cons (u:=V6 10000) (z:=(10000:Int)) ⟨rfl,(by decide :rng64 10000)⟩ (lit_cons (u:=V6 9999) (z:=(9999:Int)) ⟨rfl,(by decide :rng64 9999)⟩ lit_nil))) s fun cM cN cO ai bo bp=>?_))
  obtain⟨Y,bq,br⟩:=ob ah
  have aI:=bp.f1
  refine lk co170 (ok_spec_l30Rd_one F aI.e1 (G.mono ai) H bo bq) ?_
  rintro cP cQ ⟨bs,bu,bv,bx,rfl,aj,bz,bA,bB⟩
  have bC:=(aI.c1 aj).t6
  refine fa ff77_0 rfl (ls [V6 Y.1,V3 k l m,V3 c d f] (V6 Y.1) tf3 bC.f2 fun cR aJ=>(nb (qr (lv (rv_loadmS (ds:=[V6 Y.1,V3 k l m,V3 c d f]) tf77 rfl m0 aJ rfl rfl) (lw [V6 Y.1,V3 k l m,V3 c d f] tf77 aJ.f5 fun cS aK=>(nq (wc_ret ?_)))))))
  cases oi br
  exact ez results182 tf77 aK m0 ⟨k,l,m,c,d,f,bs,bu,bv,bx,rfl,aK.f2.f5.f5.s,bz,(C.mono ((o.le.trans ai).trans aj.le)),(D.mono ((o.le.trans ai).trans aj.le)),bA,bB⟩
 refine sr (lv (rv_eql rfl rfl) (av rfl (nq (wcc ah rfl (fun bD ak=>?_) (fun bD ak=>?_)))))
 ·refine wc_region (fl ff77_1 rfl tf74 m1 s rfl (lv (rv_build (cs:=#[sv [98,111,100,121],sv [97,103,97,105,110]]) sp108 tf108 rfl (by kernel_rfl)) (lb tGField (.agg #[sv [98,111,100,121],sv [97,103,97,105,110]]) [sv [98,111,100,121],sv [97,103,97,105,110]] (GField.mk ([98,111,100,121]:Str) ([97,103,97,105,110]:Str)) underlying74 tf108 ⟨rfl,(by decide :([98,111,100,121]:Str).length≤maxLen),(by decide :([97,103,97,105,110]:Str).length≤maxLen)⟩ s fun cT cU cV am bE bF=>?_)))
  obtain⟨cW,bG,bH⟩:=ob ak
  refine lp underlying74 tf108 (C.mono (o.le.trans am)) bE bG bF.f3 fun I J O cX bI aL bJ bK=>(fa ff77_1 rfl (ls [V6 i.1.Id,V3 I J O,V3 c d f] (V3 I J O) tf74 bK.f3 fun cY aM=>(nb (qr (lv (rv_loadmS (ds:=[V6 i.1.Id,V3 I J O,V3 c d f]) tf77 rfl m0 aM rfl rfl) (lw [V6 i.1.Id,V3 I J O,V3 c d f] tf77 aM.f5 fun cZ aN=>(nq (wc_ret ?_))))))))
  cases oi bH
  exact ez results182 tf77 aN m0 ⟨I,J,O,c,d,f,aF,aG,aH,bI,rfl,aN.f4.f5.f4.s,X,bJ,(D.mono ((o.le.trans am).trans aL)),(G.mono (am.trans aL)),H⟩
 refine sr (lv (rv_eql rfl rfl) (av rfl (nq (wcc ak rfl (fun bL an=>?_) (fun bL an=>?_)))))
 ·have ao:=s.drew
  refine wh1 (fun w'=>Holds ag w') (fun w'=>HasObj af [V6 i.1.Id,V3 k l m,V3 c d f] w') 9 [(1,7),(1,8),(1,9),(7,8),(7,9),(8,9)] mixed (ao.hasK kr) (fun _=>ao.hasObj (.tail _ (.head _))) (gt (rv_fieldAddr ff77_2 rfl) (gf (fun _ h=>rh_loadm1 tf75 rfl rfl h) (gt (rv_move rfl) (gn (wl_buildSlice (t:=tInt) (n:=2) (pv:=[(0,V6 (-1)),(1,V6 1000000000)]) (cs:=[V6 (-1),V6 1000000000]) (xs:=[(-1:Int),(1000000000:Int)]) wn rfl underlying71 tf3 rfl rfl rfl (by kernel_rfl) rfl rfl (lit_cons (u:=V6 (-1)) (z:=(-1:Int)) ⟨rfl,(by decide :rng64 (-1))⟩ (lit_cons (u:=V6 1000000000) (z:=(1000000000:Int)) ⟨rfl,(by decide :rng64 1000000000)⟩ lit_nil)) ao fun da db dc q bM ap=>(wl_nil (qh (ap.hasK q) (fun _=>ap.hasObj (.tail _ (.tail _ (.head _)))) (gn ?_))))))))
  obtain⟨aa,bN,bO⟩:=ob an
  have aO:=ap.f1
  refine lk co170 (ok_spec_l30Rd_one F aO.e1 (G.mono q) H bM bN) ?_
  rintro dd de ⟨bP,bQ,bR,df,rfl,v,bS,bT,bU⟩
  have aq:=(aO.c1 v).t6
  refine wl_nil (qh (aq.hasK (q.trans v.le)) (fun _=>aq.hasObj (.tail _ (.tail _ (.head _)))) (gt (rv_build (cs:=#[sv [122,122],V6 aa.1]) sp142 tf142 rfl (by kernel_rfl)) (gn (lb tGAttr (.agg #[sv [122,122],V6 aa.1]) [sv [122,122],V6 aa.1] (GAttr.mk ([122,122]:Str) aa.1) underlying75 tf142 ⟨rfl,(by decide :([122,122]:Str).length≤maxLen),bS⟩ aq fun dg dh di y bV ar=>(wl_nil (qh (ar.hasK ((q.trans v.le).trans y)) (fun _=>ar.hasObj (.tail _ (.tail _ (.tail _ (.head _))))) (gn ?_)))))))
  obtain⟨dj,bW,bX⟩:=ob bO
  refine lp underlying75 tf142 (SliceAt.mono (((o.le.trans q).trans v.le).trans y) D) bV bW ar.f5 fun R S T dk bY ab bZ au=>(wl_nil (qh (au.hasK (((q.trans v.le).trans y).trans ab)) (fun _=>au.hasObj (.tail _ (.tail _ (.tail _ (.tail _ (.head _)))))) (gt (rv_fieldAddr ff77_2 rfl) (gn (ls [V6 i.1.Id,V3 k l m,V3 R S T] (V3 R S T) tf75 au.f4 fun dl aw=>(wl_nil (qh (aw.hasK (((q.trans v.le).trans y).trans ab)) (fun h=>nomatch h) (gd' (qe_block (qr (lv (rv_loadmS (ds:=[V6 i.1.Id,V3 k l m,V3 R S T]) tf77 rfl m0 aw rfl rfl) ?_)))))))))))
  refine lw [V6 i.1.Id,V3 k l m,V3 R S T] tf77 aw.f6 fun dm aP=>(nq (wc_ret ?_))
  cases oi bX
  exact ez results182 tf77 aP m0 ⟨k,l,m,R,S,T,bP,bQ,bR,bY,rfl,aP.f4.f3.f6.s,X,(SliceAt.mono ((((o.le.trans q).trans v.le).trans y).trans ab) C),bZ,(bT.mono (y.trans ab)),bU⟩
 refine sr (lv (rv_eql rfl rfl) (av rfl (nq (wcc an rfl (fun ca ax=>?_) (fun ca ax=>?_)))))
 ·have ac:=s.drew
  refine wh1 (fun w'=>Holds ag w') (fun w'=>HasObj af [V6 i.1.Id,V3 k l m,V3 c d f] w') 8 [(1,6),(1,7),(1,8),(6,7),(6,8),(7,8)] mixed (ac.hasK kr) (fun _=>ac.hasObj (.tail _ (.head _))) (gt (rv_fieldAddr ff77_1 rfl) (gf (fun _ h=>rh_loadm1 tf74 rfl rfl h) (gt (rv_move rfl) (gn ?_))))
  obtain⟨ad,cb,cc⟩:=ob ax
  refine lk co226 (ok_spec_l30AnyText F ac.e1 G H cb) ?_
  rintro dn dp ⟨cd,ce,cf,dq,rfl,x,cg,ch,cj⟩
  have ay:=(ac.c1 x).t5
  refine wl_nil (qh (ay.hasK x.le) (fun _=>ay.hasObj (.tail _ (.head _))) (gt (rv_build (cs:=#[sv [122,101,100],sv ad.1]) sp108 tf108 rfl (by kernel_rfl)) (gn (lb tGField (.agg #[sv [122,101,100],sv ad.1]) [sv [122,101,100],sv ad.1] (GField.mk ([122,101,100]:Str) ad.1) underlying74 tf108 ⟨rfl,(by decide :([122,101,100]:Str).length≤maxLen),cg⟩ ay fun dr dt du B ck az=>(wl_nil (qh (az.hasK (x.le.trans B)) (fun _=>az.hasObj (.tail _ (.tail _ (.head _)))) (gn ?_)))))))
  obtain⟨dv,cl,cm⟩:=ob cc
  refine lp underlying74 tf108 (C.mono ((o.le.trans x.le).trans B)) ck cl az.f3 fun U V W dw cn ae cp aA=>(wl_nil (qh (aA.hasK ((x.le.trans B).trans ae)) (fun _=>aA.hasObj (.tail _ (.tail _ (.tail _ (.head _))))) (gt (rv_fieldAddr ff77_1 rfl) (gn (ls [V6 i.1.Id,V3 U V W,V3 c d f] (V3 U V W) tf74 aA.f3 fun dx aB=>(wl_nil (qh (aB.hasK ((x.le.trans B).trans ae)) (fun h=>nomatch h) (gd' (qe_block (qr (lv (rv_loadmS (ds:=[V6 i.1.Id,V3 U V W,V3 c d f]) tf77 rfl m0 aB rfl rfl) ?_)))))))))))
  refine lw [V6 i.1.Id,V3 U V W,V3 c d f] tf77 aB.f5 fun dy aQ=>(nq (wc_ret ?_))
  cases oi cm
  exact ez results182 tf77 aQ m0 ⟨U,V,W,c,d,f,cd,ce,cf,cn,rfl,aQ.f4.f5.f4.s,X,cp,(SliceAt.mono (((o.le.trans x.le).trans B).trans ae) D),(ch.mono (B.trans ae)),cj⟩
 refine wc_skip (qe_block (qr (lv (rv_loadmS (ds:=[V6 i.1.Id,V3 k l m,V3 c d f]) tf77 rfl m1 s rfl rfl) (lw [V6 i.1.Id,V3 k l m,V3 c d f] tf77 s.f4 fun dz aR=>(nq (wc_ret ?_))))))
 cases oi ax
 exact ez results182 tf77 aR m0 ⟨k,l,m,c,d,f,aF,aG,aH,ag,rfl,aR.f1.f4.f4.s,X,(C.mono o.le),(D.mono o.le),G,H⟩

theorem ok_spec_l30AnyDocs {q0:GL30Rd}{r:(List GDoc)×GL30Rd}(hS:SH w K Z w K [obj g1 [V3 A a b,V6 q0.p_] 208])(H:SliceAt tU8 K A a b q0.b_)(I:rng64 q0.p_)(hm:M.spec_l30AnyDocs F q0=some r):
  Calls prog 116 #[.pointer (some ⟨g1,0,none⟩)] w fun e w'=>∃a_1 n_2 c_3 a_5 n_6 c_7 K',e= .returned (V3 a_1 n_2 c_3)∧SH w K Z w' K' [tail (V3 a_1 n_2 c_3) 77 3,obj g1 [V3 a_5 n_6 c_7,V6 r.2.p_] 208]∧SliceAt tGDoc K' a_1 n_2 c_3 r.1∧SliceAt tU8 K' a_5 n_6 c_7 r.2.b_∧rng64 r.2.p_:=by
 rw [M.spec_l30AnyDocs] at hm
 refine ci func116 u ntmps116 (sr (lv (r_n u) (nr (mv u ?_))))
 obtain⟨r7,J,O⟩:=ob hm
 refine lk co181 (ok_spec_l30Docs F hS.e1 H I J) ?_
 rintro aG aH ⟨R,S,T,aI,aJ,aK,aL,rfl,U,x,V,W⟩
 have X:=(hS.c1 U).t2
 refine av u (nsr (mv u ?_))
 obtain⟨aM,Y,aa⟩:=ob O
 have y:=X.f1
 refine lk co106 (ok_spec_l30Rd_pick F y.e1 V W (by decide :rng64 10) Y) ?_
 rintro aN aO ⟨ab,ac,ad,ae,rfl,c,aP,B,C⟩
 have d:=(y.c1 c).t2
 refine lv (rv_eql u u) (nq (wcc aa u (fun af f=>?_) (fun af f=>?_)))
 ·refine sr (mv u (mv u ?_))
  obtain⟨i,ag,ah⟩:=ob f
  refine lk co182 (ok_spec_l30AnyDoc F d.e1 B C ag) ?_
  rintro aQ aR ⟨k,l,m,o,q,s,ai,aj,ak,aS,rfl,D,al,am,an,ao,ap⟩
  have aq:=(d.c1 D).t4
  refine lb tGDoc (.agg #[V6 i.1.Id,V3 k l m,V3 o q s]) [V6 i.1.Id,V3 k l m,V3 o q s] i.1 underlying43 tf77 ⟨k,l,m,o,q,s,u,al,am,an⟩ aq fun aT aU aV G ar au=>?_
  obtain⟨aW,aw,ax⟩:=ob ah
  refine lp underlying43 tf77 (x.mono ((c.le.trans D.le).trans G)) ar aw au.f4 fun ay az aA aX aB aC aD aE=>(av u (nq (rr ?_)))
  cases oi ax
  exact ey results116 ⟨ay,az,aA,ai,aj,ak,aB,u,aE.s,aD,(ao.mono (G.trans aC)),ap⟩
 refine wc_skip (qr (mv u (av u (nq (wc_ret ?_)))))
 cases oi f
 exact ey results116 ⟨R,S,T,ab,ac,ad,ae,u,d.f1,(x.mono c.le),B,C⟩

theorem ok_spec_DrawIndexAdd {q0:List UInt8}{r:GIndex×(List GDoc)}(hS:SH w K [] w K [])(J:SliceAt tU8 K A a b q0)(hm:M.spec_DrawIndexAdd F q0=some r):
  Calls prog 53 #[V3 A a b] w fun e w'=>∃a_1 n_2 c_3 a_5 n_6 c_7 a_9 n_10 c_11 a_13 n_14 c_15 K',e= .returned (.tuple #[.agg #[V3 a_1 n_2 c_3,V3 a_5 n_6 c_7,V3 a_9 n_10 c_11],V3 a_13 n_14 c_15])∧SH w K [] w' K' [tail (V3 a_9 n_10 c_11) 73 3,tail (V3 a_13 n_14 c_15) 77 3]∧SliceAt tStr K' a_1 n_2 c_3 r.1.Conf.Stops∧SliceAt tGSyn K' a_5 n_6 c_7 r.1.Conf.Syns∧SliceAt tGLive K' a_9 n_10 c_11 r.1.Segs∧SliceAt tGDoc K' a_13 n_14 c_15 r.2:=by
 rw [M.spec_DrawIndexAdd] at hm
 refine ci func53 u ntmps53 (sr (al tf36 hS fun O w6 R=>?_))
 have D:SH _ _ _ _ _ [obj O [V3 none 0 0,V3 none 0 0,V3 none 0 0] 36]:=R
 refine lv (r_n u) (nr (mv u ?_))
 obtain⟨r9,S,T⟩:=ob hm
 refine lk co104 (ok_spec_l30Open F D.enter0 J S) ?_
 rintro ay az ⟨aA,aB,aC,aD,aE,rfl,U,V,W⟩
 have G:=(D.c0 U).t2
 refine av u (nr (mv u ?_))
 obtain⟨aF,X,Y⟩:=ob T
 refine lk co103 (ok_spec_l30AnyIndex F G.e1 V W X) ?_
 rintro aG aH ⟨d,f,i,k,l,m,o,q,s,aI,aJ,aK,aa,rfl,ab,ac,ad,ae,af,ag⟩
 have ah:=(G.c1 ab).t3
 refine al tf36 ah fun H aL ai=>?_
 have aj:SH _ _ _ _ _ [obj H [V3 none 0 0,V3 none 0 0,V3 none 0 0] 36,_,_,_]:=ai
 refine lw [V3 d f i,V3 k l m,V3 o q s] tf36 aj fun aM ak=>(ns ?_)
 have B:=ak.drew
 refine wh1 (fun w'=>Holds aa w'∧HasObj H [V3 d f i,V3 k l m,V3 o q s] w') (fun w'=>True) 5 [] mixed ⟨B.hasK kr,B.hasObj m0⟩ (fun _=>trivial) (gh (fun _ h=>rh_loadmS (ds:=[V3 d f i,V3 k l m,V3 o q s]) tf36 u u u h.2) (gt (rv_move u) (gn ?_)))
 obtain⟨aN,am,an⟩:=ob Y
 have I:=B.f2
 refine lk co116 (ok_spec_l30AnyDocs F I.e1 af ag am) ?_
 rintro aO aP ⟨ao,ap,aq,aQ,aR,aS,ar,rfl,x,au,aT,aU⟩
 have C:=(I.c1 x).t5
 refine wl_nil (qh ⟨C.hasK x.le,C.hasObj m2⟩ (fun _=>trivial) (gn (lw [V3 d f i,V3 k l m,V3 o q s] tf36 C.f4 fun aV y=>(wl_nil (qh ⟨y.hasK x.le,y.hasObj m3⟩ (fun _=>trivial) (gt (rv_assign u) (gd' (qe_seq (wc_ret ?_)))))))))
 cases oi an
 exact qe_ret (vs:=[_,_]) results53 ⟨⟨_,_,u,run_loadVar_at tf36 (cs:=[V3 d f i,V3 k l m,V3 o q s]) (fun j c e=>by rw [Nat.zero_add,y.mem_obj m0];exact e) (.inl ⟨u,u,u⟩)⟩,u,trivial⟩ ⟨d,f,i,k,l,m,o,q,s,ao,ap,aq,ar,u,y.f1.f4.s,(ac.mono x.le),(ad.mono x.le),(ae.mono x.le),au⟩

theorem ok_impl_cloneConf {q0:GConf}{r:GConf}(hS:SH w K [] w K [])(aK:SliceAt tStr K A a b q0.Stops)(aj:SliceAt tGSyn K B c d q0.Syns)(hm:M.impl_cloneConf F q0=some r):
  Calls prog 171 #[.agg #[V3 A a b,V3 B c d]] w fun e w'=>∃a_1 n_2 c_3 a_5 n_6 c_7 K',e= .returned (.agg #[V3 a_1 n_2 c_3,V3 a_5 n_6 c_7])∧SH w K [] w' K' [tail (V3 a_1 n_2 c_3) 9 1,tail (V3 a_5 n_6 c_7) 159 2]∧SliceAt tStr K' a_1 n_2 c_3 r.Stops∧SliceAt tGSyn K' a_5 n_6 c_7 r.Syns:=by
 rw [M.impl_cloneConf] at hm
 refine ci func171 u ntmps171 (sr (bx u hS fun g9 bJ aM=>?_))
 have aN:SH _ _ _ _ _ [obj g9 [V3 A a b,V3 B c d] 33]:=aM
 refine al tf33 aN fun T bK aO=>?_
 have aP:SH _ _ _ _ _ [obj T [V3 none 0 0,V3 none 0 0] 33,_]:=aO
 refine nr (b0 tStr underlying22 tf9 aP fun bL bM bN U aQ aD=>(fl ff33_0 u tf22 m2 aD u ?_))
 obtain⟨bO,aR,aS⟩:=ob hm
 refine lp underlying22 tf9 aQ (aK.mono U) aR aD fun ak am an bP bQ ao aT aU=>(b0 tGSyn underlying31 tf159 aU fun ap bR aq V aV aW=>(lv (rv_build (cs:=#[V3 ak am an,V3 ap 0 0]) sp33 tf33 u (by kernel_rfl)) (al tf33 aW fun O bS aX=>?_)))
 have aY:SH _ _ _ _ _ [obj O [V3 none 0 0,V3 none 0 0] 33,_,_,_,_]:=aX
 refine lw [V3 ak am an,V3 ap 0 0] tf33 aY fun bT aE=>(nsr (fl ff33_1 u tf31 m4 aE u (lv (rv_len underlying31 u (aj.mono ((U.trans ao).trans V))) (lv (r_m u) (nq ?_)))))
 obtain⟨aF,aZ,ba⟩:=ob aS
 refine wc_cutg (fun E' w'=>∃o q s x y C R,E'=[(2,pt T),(3,pt O)]∧SH w K [] w' R [obj T [V3 none 0 0,V3 none 0 0] 33,obj O [V3 o q s,V3 x y C] 33,tail (V3 o q s) 9 1,tail (V3 x y C) 159 2]∧KLe aq R∧SliceAt tStr R o q s aF.Stops∧SliceAt tGSyn R x y C aF.Syns) ?_ ?_
 ·refine wc_block ?_
  obtain⟨bU,bb,bc⟩:=ob aZ
  have bd:=aE.f1.f2.f2.f3.sb (sk (sk (sk (sk (sd sz)))))
  refine qF (fun (aG:Nat) (W:GConf) E' w'=>∃f i k D G H m,E'=[(2,pt T),(3,pt O),(13,V3 B c d),(14,V6 (q0.Syns.length:Int)),(15,V6 ((aG:Nat):Int))]∧SH w K [] w' m [obj T [V3 none 0 0,V3 none 0 0] 33,obj O [V3 f i k,V3 D G H] 33,tail (V3 f i k) 9 1,tail (V3 D G H) 159 2]∧KLe aq m∧SliceAt tStr m f i k W.Stops∧SliceAt tGSyn m D G H W.Syns) bb ⟨ak,am,an,ap,0,0,aq,u,bd,kr,(aT.mono V),aV⟩ ?_ ?_
  ·rintro aG W _ be bV hi84 bf ⟨f,i,k,D,G,H,m,rfl,X,Y,ar,au⟩
   refine sr (lv (rv_lss u u) (ns (wc_cond_t u (decide_eq_true (by omega)) (wc_skip (qe_seq (wc_seq (wc_block (sr ?_))))))))
   obtain⟨I,bg,bh⟩:=ob bf
   refine li underlying31 tf159 (SliceAt.mono (((U.trans ao).trans V).trans Y) aj) bg fun bi bj bW bk bl=>?_
   obtain⟨aw,ax,ay,rfl,bm,bn⟩:=bk
   have bo:AtK _ bi bj [V3 aw ax ay,sv I.To]:=bl
   refine lv (rv_loadS tf159 u X bo u) (al tf159 X fun aH bX bp=>?_)
   have bq:SH _ _ _ _ _ [obj aH [V3 none 0 0,sv []] 159,_,_,_,_]:=bp
   refine lw [V3 aw ax ay,sv I.To] tf159 bq fun bY br=>(nq ?_)
   have aa:=br.drew
   refine wj0 (fun w'=>Holds m w'∧HasObj aH [V3 aw ax ay,sv I.To] w') (fun w'=>HasObj O [V3 f i k,V3 D G H] w') 12 [(1,10),(1,11),(1,12),(10,11),(10,12),(11,12)] mixed ⟨aa.hasK kr,aa.hasObj m0⟩ (fun _=>aa.hasObj (.tail _ (.tail _ (.head _)))) (jv 0 u (rv_fieldAddr ff33_1 u) (jf 1 u (fun _ h=>rh_loadm1 tf31 u u h) (jv 3 u (rv_fieldAddr ff159_0 u) (jh 4 u (fun _ h=>rh_loadm1 tf22 u u h.2) (jv 6 u (rv_fieldAddr ff159_1 u) (jh 7 u (fun _ h=>rh_loadm1 tf9 u u h.2) (j1 2 u (b0 tStr underlying22 tf9 aa fun bZ ca cb l bs ab=>(jn ⟨ab.hasK l,ab.hasObj m1⟩ (fun _=>ab.hasObj (.tail _ (.tail _ (.tail _ (.head _))))) ?_)))))))))
   refine j1 5 u ?_
   obtain⟨bu,bv,bz⟩:=ob bh
   refine lp underlying22 tf9 bs (bm.mono l) bv ab fun ac ad ae cc cd J bA af=>(jn ⟨af.hasK (l.trans J),af.hasObj m1⟩ (fun _=>af.hasObj (.tail _ (.tail _ (.tail _ (.head _))))) (jv 8 u (rv_build (cs:=#[V3 ac ad ae,sv I.To]) sp159 tf159 u (by kernel_rfl)) (j1 9 u (lb tGSyn (.agg #[V3 ac ad ae,sv I.To]) [V3 ac ad ae,sv I.To] (GSyn.mk bu I.To) underlying31 tf159 ⟨ac,ad,ae,u,bA,bn⟩ af fun ce cf cg S bB ag=>(jn ⟨ag.hasK ((l.trans J).trans S),ag.hasObj m2⟩ (fun _=>ag.hasObj (.tail _ (.tail _ (.tail _ (.tail _ (.head _)))))) (j1 10 u ?_))))))
   obtain⟨ch,bC,bD⟩:=ob bz
   refine lp underlying31 tf159 (au.mono ((l.trans J).trans S)) bB bC ag.f6 fun az aA aB cj bE ah bF ai=>(jn ⟨ai.hasK (((l.trans J).trans S).trans ah),ai.hasObj m3⟩ (fun _=>ai.hasObj (.tail _ (.tail _ (.tail _ (.tail _ (.tail _ (.head _))))))) (jv 11 u (rv_fieldAddr ff33_1 u) (j1 12 u (ls [V3 f i k,V3 az aA aB] (V3 az aA aB) tf31 ai.f5 fun ck aC=>(jn ⟨aC.hasK (((l.trans J).trans S).trans ah),aC.hasObj m4⟩ (fun h=>nomatch h) (jd (qe_block (qg (lv (rv_add_to u u (w64_succ hi84 (SliceAt.max (aj.mono ((U.trans ao).trans V))))) ?_)))))))))
   refine mv u (wl_nil ?_)
   cases oi bD
   exact qd ⟨f,i,k,az,aA,aB,bE,u,aC.f1.f6.f2.f6.s,((((Y.trans l).trans J).trans S).trans ah),(SliceAt.mono (((l.trans J).trans S).trans ah) ar),bF⟩
  rintro W _ be bG ⟨f,i,k,D,G,H,m,rfl,X,Y,ar,au⟩
  subst bG
  refine sr (lv (rv_lss u u) (ns (wc_cond_f u (decide_eq_false (by omega)) (wc_exit (qe_then_exit (qe_then_exit (qe_block_eq ?_)))))))
  cases oi bc
  exact qd ⟨f,i,k,D,G,H,m,u,X,Y,ar,au⟩
 rintro _ cl ⟨o,q,s,x,y,C,R,rfl,aI,cm,bH,bI⟩
 refine qr (lv (rv_loadmS (ds:=[V3 o q s,V3 x y C]) tf33 u m1 aI u u) (lw [V3 o q s,V3 x y C] tf33 aI fun cn aJ=>(nq (wc_ret ?_))))
 cases oi ba
 exact ez results171 tf33 aJ m0 ⟨o,q,s,x,y,C,R,u,aJ.s,bH,bI⟩

theorem ok_impl_cloneLive {q0:GLive}{r:GLive}(hS:SH w K [] w K [])(aa:SliceAt tGDoc K A a b q0.Seg.Docs)(fD:SliceAt tGEntry K B c d q0.Seg.Entries)(D:SliceAt tInt K C f i q0.Dead)(hm:M.impl_cloneLive F q0=some r):
  Calls prog 172 #[.agg #[V3 A a b,V3 B c d,V3 C f i]] w fun e w'=>∃a_1 n_2 c_3 a_5 n_6 c_7 a_9 n_10 c_11 cs_12 K',e= .returned (.agg #[V3 a_1 n_2 c_3,V3 a_5 n_6 c_7,V3 a_9 n_10 c_11])∧SH w K [] w' K' [rowI (V3 a_9 n_10 c_11) cs_12 3 1]∧SliceAt tGDoc K' a_1 n_2 c_3 r.Seg.Docs∧SliceAt tGEntry K' a_5 n_6 c_7 r.Seg.Entries∧RowAt true tInt K' cs_12 r.Dead∧n_10=r.Dead.length:=by
 rw [M.impl_cloneLive] at hm
 refine ci func172 u ntmps172 (sr (bx u hS fun ca oy kY=>?_))
 have kZ:SH _ _ _ _ _ [obj ca [V3 A a b,V3 B c d,V3 C f i] 73]:=kY
 refine al tf73 kZ fun an oz la=>?_
 have ld:SH _ _ _ _ _ [obj an [V3 none 0 0,V3 none 0 0,V3 none 0 0] 73,_]:=la
 refine ns ?_
 obtain⟨dR,le,lf⟩:=ob hm
 refine wc_cutg (fun E' w'=>∃ao dS dT dU cD cE cF dV cG dW cs40 aE,E'=[(1,pt ca),(2,pt an),(3,pt ao)]∧SH w K [] w' aE [obj ao [V3 dS dT dU,V3 cD cE cF,V3 dV cG dW] 73,rowI (V3 dV cG dW) cs40 3 1,tail (V3 cD cE cF) 116 3,obj ca [V3 A a b,V3 B c d,V3 C f i] 73,obj an [V3 none 0 0,V3 none 0 0,V3 none 0 0] 73]∧KLe K aE∧SliceAt tGDoc aE dS dT dU dR.Seg.Docs∧SliceAt tGEntry aE cD cE cF dR.Seg.Entries∧RowAt true tInt aE cs40 dR.Dead∧cG=dR.Dead.length) ?_ ?_
 ·obtain⟨oA,ab,lh⟩:=ob le
  obtain⟨oB,G,y⟩:=ob lh
  refine wc_held (fun w'=>Holds K w'∧HasObj ca [V3 A a b,V3 B c d,V3 C f i] w') (fun w'=>True) 13 [] mixed ?_
  have ag:=ld.drew
  refine wg_val (i:=0) (listed':=L_ 13 0) (fun _=>True) u (by kernel_rfl) (pk_then (pk_then pk_body)) (by kernel_rfl) u (by kernel_rfl) (by kernel_rfl) u (.inl fun _ _=>trivial) ⟨⟨ag.hasK kr,ag.hasObj m1⟩,(fun _=>trivial),by decide⟩ wn u (fun _ _=>(rv_fieldAddr ff73_0 u)) (wg_val (i:=1) (listed':=L_ 13 1) (fun _=>True) u (by kernel_rfl) (pk_then (pk_then pk_body)) (by kernel_rfl) u (by kernel_rfl) (by kernel_rfl) u (.inl fun _ _=>trivial) ⟨⟨ag.hasK kr,ag.hasObj m1⟩,(fun _=>trivial),by decide⟩ wn u (fun _ _=>(rv_fieldAddr ff46_0 u)) (wg_val (i:=2) (listed':=L_ 13 2) (HasObj ca [V3 A a b,V3 B c d,V3 C f i]) u (by kernel_rfl) (pk_then (pk_then pk_body)) (by kernel_rfl) u (by kernel_rfl) (by kernel_rfl) u (.inl fun _ h=>h.2) ⟨⟨ag.hasK kr,ag.hasObj m1⟩,(fun _=>trivial),by decide⟩ wn u (fun _ h=>rh_loadm1 tf43 u u h) ?_))
  refine wg_val (i:=7) (listed':=#[true,true,true,false,false,false,false,true,false,false,false,false,false]) (fun _=>True) u (by kernel_rfl) (pk_then (pk_then pk_body)) (by kernel_rfl) u (by kernel_rfl) (by kernel_rfl) u (.inl fun _ _=>trivial) ⟨⟨ag.hasK kr,ag.hasObj m1⟩,(fun _=>trivial),by decide⟩ wn u (fun _ _=>(rv_fieldAddr ff73_1 u)) (wg_val (i:=8) (listed':=#[true,true,true,false,false,false,false,true,true,false,false,false,false]) (HasObj ca [V3 A a b,V3 B c d,V3 C f i]) u (by kernel_rfl) (pk_then (pk_then pk_body)) (by kernel_rfl) u (by kernel_rfl) (by kernel_rfl) u (.inl fun _ h=>h.2) ⟨⟨ag.hasK kr,ag.hasObj m1⟩,(fun _=>trivial),by decide⟩ wn u (fun _ h=>rh_loadm1 tf71 u u h) (wg_many (l:=[3,4,6,11]) (by kernel_rfl) u ⟨⟨_,u,?_⟩,⟨_,u,?_⟩,⟨_,u,?_⟩,⟨_,u,?_⟩,trivial⟩))
  ·refine lk co72 (ok_impl_cloneDocs F ag.enter0 aa ab) ?_
   rintro oC oD ⟨o,q,s,oE,rfl,k,ah⟩
   have cH:=(ag.c0 k).t3
   refine wl_nil (qe_held (listed':=#[true,true,true,true,false,false,false,true,true,false,false,false,false]) u ⟨⟨cH.hasK k.le,cH.hasObj m2⟩,(fun _=>trivial),by decide⟩ (wg_many (l:=[4,6,11]) (by kernel_rfl) u ⟨⟨_,u,?_⟩,⟨_,u,?_⟩,⟨_,u,?_⟩,trivial⟩))
   ·refine b0 tGEntry underlying44 tf116 cH fun au oF fE J fF cb=>(wl_nil (qe_held (listed':=#[true,true,true,true,true,false,false,true,true,false,false,false,false]) u ⟨⟨cb.hasK (k.le.trans J),cb.hasObj m3⟩,(fun _=>trivial),by decide⟩ (wg_val (i:=5) (listed':=#[true,true,true,true,true,true,false,true,true,false,false,false,false]) (fun _=>True) u (by kernel_rfl) (pk_then (pk_then pk_body)) (by kernel_rfl) u (by kernel_rfl) (by kernel_rfl) u (.inl fun _ _=>trivial) ⟨⟨cb.hasK (k.le.trans J),cb.hasObj m3⟩,(fun _=>trivial),by decide⟩ wn u (fun _ _=>(rv_build (cs:=#[V3 o q s,V3 au 0 0]) sp46 tf46 u (by kernel_rfl))) (wg_many (l:=[6,11]) (by kernel_rfl) u ⟨⟨_,u,?_⟩,⟨_,u,?_⟩,trivial⟩))))
    ·refine wl_buildSlice0R tInt wn u underlying71 tf3 cb fun oG oH dX=>(wl_nil (qe_held (listed':=L_ 13 8) u ⟨⟨dX.hasK (k.le.trans J),dX.hasObj m4⟩,(fun _=>trivial),by decide⟩ (wg_many (l:=[9,11]) (by kernel_rfl) u ⟨⟨_,u,?_⟩,⟨_,u,?_⟩,trivial⟩)))
     ·refine wl_appendR (t:=tInt) wn u underlying71 tf3 u u u u (RowAt.nil tInt _) u (D.mono (k.le.trans J)) G dX fun fG fH fI cs105 oI hrow107 hm108 cI=>(wl_nil (qe_held (listed':=L_ 13 9) u ⟨⟨cI.hasK (k.le.trans J),cI.hasObj m4⟩,(fun _=>trivial),by decide⟩ (wg_val (i:=10) (listed':=L_ 13 10) (fun _=>True) u (by kernel_rfl) (pk_then (pk_then pk_body)) (by kernel_rfl) u (by kernel_rfl) (by kernel_rfl) u (.inl fun _ _=>trivial) ⟨⟨cI.hasK (k.le.trans J),cI.hasObj m4⟩,(fun _=>trivial),by decide⟩ wn u (fun _ _=>(rv_build (cs:=#[V3 o q s,V3 au 0 0,V3 fG fH fI]) sp73 tf73 u (by kernel_rfl))) (wg_one (i:=11) (by kernel_rfl) u (al tf73 cI fun ke oJ lj=>?_)))))
      have fJ:SH _ _ _ _ _ [obj ke [V3 none 0 0,V3 none 0 0,V3 none 0 0] 73,_,_,_,_,_]:=lj
      refine wl_nil (qe_held (listed':=L_ 13 11) u ⟨⟨fJ.hasK (k.le.trans J),fJ.hasObj m5⟩,(fun _=>trivial),by decide⟩ (wg_one (i:=12) (by kernel_rfl) u (lw [V3 o q s,V3 au 0 0,V3 fG fH fI] tf73 fJ fun oK fK=>(wl_nil (qe_held (listed':=L_ 13 12) u ⟨⟨fK.hasK (k.le.trans J),fK.hasObj m5⟩,(fun _=>trivial),by decide⟩ (wg_done (by kernel_rfl) ?_))))))
      cases oi y
      exact qd ⟨ke,o,q,s,au,0,0,fG,fH,fI,cs105,fE,u,fK.f4.f5.f4.f4.f4.s,(k.le.trans J),(ah.mono J),fF,hrow107,hm108⟩
     refine al tf73 dX fun kf oL ll=>?_
     have fL:SH _ _ _ _ _ [obj kf [V3 none 0 0,V3 none 0 0,V3 none 0 0] 73,_,_,_,_,_]:=ll
     refine wl_nil (qe_held (listed':=#[true,true,true,true,true,true,true,true,true,false,false,true,false]) u ⟨⟨fL.hasK (k.le.trans J),fL.hasObj m5⟩,(fun _=>trivial),by decide⟩ (wg_one (i:=9) (by kernel_rfl) u (wl_appendR (t:=tInt) wn u underlying71 tf3 u u u u (RowAt.nil tInt _) u (D.mono (k.le.trans J)) G fL.f1 fun fM fN fO cs130 oM hrow132 hm133 cJ=>(wl_nil (qe_held (listed':=#[true,true,true,true,true,true,true,true,true,true,false,true,false]) u ⟨⟨cJ.hasK (k.le.trans J),cJ.hasObj m5⟩,(fun _=>trivial),by decide⟩ (wg_val (i:=10) (listed':=L_ 13 11) (fun _=>True) u (by kernel_rfl) (pk_then (pk_then pk_body)) (by kernel_rfl) u (by kernel_rfl) (by kernel_rfl) u (.inl fun _ _=>trivial) ⟨⟨cJ.hasK (k.le.trans J),cJ.hasObj m5⟩,(fun _=>trivial),by decide⟩ wn u (fun _ _=>(rv_build (cs:=#[V3 o q s,V3 au 0 0,V3 fM fN fO]) sp73 tf73 u (by kernel_rfl))) (wg_one (i:=12) (by kernel_rfl) u (lw [V3 o q s,V3 au 0 0,V3 fM fN fO] tf73 cJ.f1 fun oN fP=>?_))))))))
     refine wl_nil (qe_held (listed':=L_ 13 12) u ⟨⟨fP.hasK (k.le.trans J),fP.hasObj m5⟩,(fun _=>trivial),by decide⟩ (wg_done (by kernel_rfl) ?_))
     cases oi y
     exact qd ⟨kf,o,q,s,au,0,0,fM,fN,fO,cs130,fE,u,fP.f4.f5.f4.f4.f4.s,(k.le.trans J),(ah.mono J),fF,hrow132,hm133⟩
    refine al tf73 cb fun ki oO lm=>?_
    have fQ:SH _ _ _ _ _ [obj ki [V3 none 0 0,V3 none 0 0,V3 none 0 0] 73,_,_,_,_]:=lm
    refine wl_nil (qe_held (listed':=#[true,true,true,true,true,true,false,true,true,false,false,true,false]) u ⟨⟨fQ.hasK (k.le.trans J),fQ.hasObj m4⟩,(fun _=>trivial),by decide⟩ (wg_one (i:=6) (by kernel_rfl) u (wl_buildSlice0R tInt wn u underlying71 tf3 fQ fun oP oQ fR=>(wl_nil (qe_held (listed':=#[true,true,true,true,true,true,true,true,true,false,false,true,false]) u ⟨⟨fR.hasK (k.le.trans J),fR.hasObj m5⟩,(fun _=>trivial),by decide⟩ (wg_one (i:=9) (by kernel_rfl) u (wl_appendR (t:=tInt) wn u underlying71 tf3 u u u u (RowAt.nil tInt _) u (D.mono (k.le.trans J)) G fR fun fS fT fU cs154 oR hrow156 hm157 cK=>(wl_nil (qe_held (listed':=#[true,true,true,true,true,true,true,true,true,true,false,true,false]) u ⟨⟨cK.hasK (k.le.trans J),cK.hasObj m5⟩,(fun _=>trivial),by decide⟩ ?_)))))))))
    refine wg_val (i:=10) (listed':=L_ 13 11) (fun _=>True) u (by kernel_rfl) (pk_then (pk_then pk_body)) (by kernel_rfl) u (by kernel_rfl) (by kernel_rfl) u (.inl fun _ _=>trivial) ⟨⟨cK.hasK (k.le.trans J),cK.hasObj m5⟩,(fun _=>trivial),by decide⟩ wn u (fun _ _=>(rv_build (cs:=#[V3 o q s,V3 au 0 0,V3 fS fT fU]) sp73 tf73 u (by kernel_rfl))) (wg_one (i:=12) (by kernel_rfl) u (lw [V3 o q s,V3 au 0 0,V3 fS fT fU] tf73 cK.f1 fun oS fV=>(wl_nil (qe_held (listed':=L_ 13 12) u ⟨⟨fV.hasK (k.le.trans J),fV.hasObj m5⟩,(fun _=>trivial),by decide⟩ (wg_done (by kernel_rfl) ?_)))))
    cases oi y
    exact qd ⟨ki,o,q,s,au,0,0,fS,fT,fU,cs154,fE,u,fV.f4.f5.f4.f4.f4.s,(k.le.trans J),(ah.mono J),fF,hrow156,hm157⟩
   ·refine wl_buildSlice0R tInt wn u underlying71 tf3 cH fun oT oU cL=>(wl_nil (qe_held (listed':=#[true,true,true,true,false,false,true,true,true,false,false,false,false]) u ⟨⟨cL.hasK k.le,cL.hasObj m3⟩,(fun _=>trivial),by decide⟩ (wg_many (l:=[4,9,11]) (by kernel_rfl) u ⟨⟨_,u,?_⟩,⟨_,u,?_⟩,⟨_,u,?_⟩,trivial⟩)))
    ·refine b0 tGEntry underlying44 tf116 cL fun bn oV kj ac kk cc=>(wl_nil (qe_held (listed':=#[true,true,true,true,true,false,true,true,true,false,false,false,false]) u ⟨⟨cc.hasK (k.le.trans ac),cc.hasObj m4⟩,(fun _=>trivial),by decide⟩ (wg_val (i:=5) (listed':=L_ 13 8) (fun _=>True) u (by kernel_rfl) (pk_then (pk_then pk_body)) (by kernel_rfl) u (by kernel_rfl) (by kernel_rfl) u (.inl fun _ _=>trivial) ⟨⟨cc.hasK (k.le.trans ac),cc.hasObj m4⟩,(fun _=>trivial),by decide⟩ wn u (fun _ _=>(rv_build (cs:=#[V3 o q s,V3 bn 0 0]) sp46 tf46 u (by kernel_rfl))) (wg_many (l:=[9,11]) (by kernel_rfl) u ⟨⟨_,u,?_⟩,⟨_,u,?_⟩,trivial⟩))))
     ·have ln:=cc.f1
      refine wl_appendR (t:=tInt) wn u underlying71 tf3 u u u u (RowAt.nil tInt _) u (D.mono (k.le.trans ac)) G ln fun fW fX fY cs181 oW hrow183 hm184 cM=>(wl_nil (qe_held (listed':=L_ 13 9) u ⟨⟨cM.hasK (k.le.trans ac),cM.hasObj m4⟩,(fun _=>trivial),by decide⟩ (wg_val (i:=10) (listed':=L_ 13 10) (fun _=>True) u (by kernel_rfl) (pk_then (pk_then pk_body)) (by kernel_rfl) u (by kernel_rfl) (by kernel_rfl) u (.inl fun _ _=>trivial) ⟨⟨cM.hasK (k.le.trans ac),cM.hasObj m4⟩,(fun _=>trivial),by decide⟩ wn u (fun _ _=>(rv_build (cs:=#[V3 o q s,V3 bn 0 0,V3 fW fX fY]) sp73 tf73 u (by kernel_rfl))) (wg_one (i:=11) (by kernel_rfl) u (al tf73 cM fun kl oX lo=>?_)))))
      have fZ:SH _ _ _ _ _ [obj kl [V3 none 0 0,V3 none 0 0,V3 none 0 0] 73,_,_,_,_,_]:=lo
      refine wl_nil (qe_held (listed':=L_ 13 11) u ⟨⟨fZ.hasK (k.le.trans ac),fZ.hasObj m5⟩,(fun _=>trivial),by decide⟩ (wg_one (i:=12) (by kernel_rfl) u (lw [V3 o q s,V3 bn 0 0,V3 fW fX fY] tf73 fZ fun oY ga=>(wl_nil (qe_held (listed':=L_ 13 12) u ⟨⟨ga.hasK (k.le.trans ac),ga.hasObj m5⟩,(fun _=>trivial),by decide⟩ (wg_done (by kernel_rfl) ?_))))))
      cases oi y
      exact qd ⟨kl,o,q,s,bn,0,0,fW,fX,fY,cs181,kj,u,ga.f4.f5.f4.f4.f4.s,(k.le.trans ac),(ah.mono ac),kk,hrow183,hm184⟩
     refine al tf73 cc fun ko oZ lq=>?_
     have gb:SH _ _ _ _ _ [obj ko [V3 none 0 0,V3 none 0 0,V3 none 0 0] 73,_,_,_,_,_]:=lq
     refine wl_nil (qe_held (listed':=#[true,true,true,true,true,true,true,true,true,false,false,true,false]) u ⟨⟨gb.hasK (k.le.trans ac),gb.hasObj m5⟩,(fun _=>trivial),by decide⟩ (wg_one (i:=9) (by kernel_rfl) u (wl_appendR (t:=tInt) wn u underlying71 tf3 u u u u (RowAt.nil tInt _) u (D.mono (k.le.trans ac)) G gb.f2 fun gc gd ge cs206 pa hrow208 hm209 cN=>(wl_nil (qe_held (listed':=#[true,true,true,true,true,true,true,true,true,true,false,true,false]) u ⟨⟨cN.hasK (k.le.trans ac),cN.hasObj m5⟩,(fun _=>trivial),by decide⟩ (wg_val (i:=10) (listed':=L_ 13 11) (fun _=>True) u (by kernel_rfl) (pk_then (pk_then pk_body)) (by kernel_rfl) u (by kernel_rfl) (by kernel_rfl) u (.inl fun _ _=>trivial) ⟨⟨cN.hasK (k.le.trans ac),cN.hasObj m5⟩,(fun _=>trivial),by decide⟩ wn u (fun _ _=>(rv_build (cs:=#[V3 o q s,V3 bn 0 0,V3 gc gd ge]) sp73 tf73 u (by kernel_rfl))) (wg_one (i:=12) (by kernel_rfl) u (lw [V3 o q s,V3 bn 0 0,V3 gc gd ge] tf73 cN.f1 fun pb gg=>?_))))))))
     refine wl_nil (qe_held (listed':=L_ 13 12) u ⟨⟨gg.hasK (k.le.trans ac),gg.hasObj m5⟩,(fun _=>trivial),by decide⟩ (wg_done (by kernel_rfl) ?_))
     cases oi y
     exact qd ⟨ko,o,q,s,bn,0,0,gc,gd,ge,cs206,kj,u,gg.f4.f5.f4.f4.f4.s,(k.le.trans ac),(ah.mono ac),kk,hrow208,hm209⟩
    ·refine wl_appendR (t:=tInt) wn u underlying71 tf3 u u u u (RowAt.nil tInt _) u (D.mono k.le) G cL fun cd ce cf cs223 pc hrow225 hm226 dY=>(wl_nil (qe_held (listed':=#[true,true,true,true,false,false,true,true,true,true,false,false,false]) u ⟨⟨dY.hasK k.le,dY.hasObj m3⟩,(fun _=>trivial),by decide⟩ (wg_many (l:=[4,11]) (by kernel_rfl) u ⟨⟨_,u,?_⟩,⟨_,u,?_⟩,trivial⟩)))
     ·refine b0 tGEntry underlying44 tf116 dY fun dZ pd lr aT lt bo=>(wl_nil (qe_held (listed':=#[true,true,true,true,true,false,true,true,true,true,false,false,false]) u ⟨⟨bo.hasK (k.le.trans aT),bo.hasObj m4⟩,(fun _=>trivial),by decide⟩ (wg_val (i:=5) (listed':=L_ 13 9) (fun _=>True) u (by kernel_rfl) (pk_then (pk_then pk_body)) (by kernel_rfl) u (by kernel_rfl) (by kernel_rfl) u (.inl fun _ _=>trivial) ⟨⟨bo.hasK (k.le.trans aT),bo.hasObj m4⟩,(fun _=>trivial),by decide⟩ wn u (fun _ _=>(rv_build (cs:=#[V3 o q s,V3 dZ 0 0]) sp46 tf46 u (by kernel_rfl))) (wg_val (i:=10) (listed':=L_ 13 10) (fun _=>True) u (by kernel_rfl) (pk_then (pk_then pk_body)) (by kernel_rfl) u (by kernel_rfl) (by kernel_rfl) u (.inl fun _ _=>trivial) ⟨⟨bo.hasK (k.le.trans aT),bo.hasObj m4⟩,(fun _=>trivial),by decide⟩ wn u (fun _ _=>(rv_build (cs:=#[V3 o q s,V3 dZ 0 0,V3 cd ce cf]) sp73 tf73 u (by kernel_rfl))) (wg_one (i:=11) (by kernel_rfl) u (al tf73 bo fun kp pe lx=>?_))))))
      have gj:SH _ _ _ _ _ [obj kp [V3 none 0 0,V3 none 0 0,V3 none 0 0] 73,_,_,_,_,_]:=lx
      refine wl_nil (qe_held (listed':=L_ 13 11) u ⟨⟨gj.hasK (k.le.trans aT),gj.hasObj m5⟩,(fun _=>trivial),by decide⟩ (wg_one (i:=12) (by kernel_rfl) u (lw [V3 o q s,V3 dZ 0 0,V3 cd ce cf] tf73 gj fun pf gk=>(wl_nil (qe_held (listed':=L_ 13 12) u ⟨⟨gk.hasK (k.le.trans aT),gk.hasObj m5⟩,(fun _=>trivial),by decide⟩ (wg_done (by kernel_rfl) ?_))))))
      cases oi y
      exact qd ⟨kp,o,q,s,dZ,0,0,cd,ce,cf,cs223,lr,u,gk.f4.f5.f3.f4.f4.s,(k.le.trans aT),(ah.mono aT),lt,(RowAt.mono aT hrow225),hm226⟩
     refine al tf73 dY fun kq pg ly=>?_
     have gl:SH _ _ _ _ _ [obj kq [V3 none 0 0,V3 none 0 0,V3 none 0 0] 73,_,_,_,_]:=ly
     refine wl_nil (qe_held (listed':=#[true,true,true,true,false,false,true,true,true,true,false,true,false]) u ⟨⟨gl.hasK k.le,gl.hasObj m4⟩,(fun _=>trivial),by decide⟩ (wg_one (i:=4) (by kernel_rfl) u (b0 tGEntry underlying44 tf116 gl fun ea ph lz bp lA bq=>(wl_nil (qe_held (listed':=#[true,true,true,true,true,false,true,true,true,true,false,true,false]) u ⟨⟨bq.hasK (k.le.trans bp),bq.hasObj m5⟩,(fun _=>trivial),by decide⟩ (wg_val (i:=5) (listed':=#[true,true,true,true,true,true,true,true,true,true,false,true,false]) (fun _=>True) u (by kernel_rfl) (pk_then (pk_then pk_body)) (by kernel_rfl) u (by kernel_rfl) (by kernel_rfl) u (.inl fun _ _=>trivial) ⟨⟨bq.hasK (k.le.trans bp),bq.hasObj m5⟩,(fun _=>trivial),by decide⟩ wn u (fun _ _=>(rv_build (cs:=#[V3 o q s,V3 ea 0 0]) sp46 tf46 u (by kernel_rfl))) ?_))))))
     refine wg_val (i:=10) (listed':=L_ 13 11) (fun _=>True) u (by kernel_rfl) (pk_then (pk_then pk_body)) (by kernel_rfl) u (by kernel_rfl) (by kernel_rfl) u (.inl fun _ _=>trivial) ⟨⟨bq.hasK (k.le.trans bp),bq.hasObj m5⟩,(fun _=>trivial),by decide⟩ wn u (fun _ _=>(rv_build (cs:=#[V3 o q s,V3 ea 0 0,V3 cd ce cf]) sp73 tf73 u (by kernel_rfl))) (wg_one (i:=12) (by kernel_rfl) u (lw [V3 o q s,V3 ea 0 0,V3 cd ce cf] tf73 bq.f1 fun pi gm=>(wl_nil (qe_held (listed':=L_ 13 12) u ⟨⟨gm.hasK (k.le.trans bp),gm.hasObj m5⟩,(fun _=>trivial),by decide⟩ (wg_done (by kernel_rfl) ?_)))))
     cases oi y
     exact qd ⟨kq,o,q,s,ea,0,0,cd,ce,cf,cs223,lz,u,gm.f4.f5.f3.f4.f4.s,(k.le.trans bp),(ah.mono bp),lA,(RowAt.mono bp hrow225),hm226⟩
    refine al tf73 cL fun go pj lB=>?_
    have eb:SH _ _ _ _ _ [obj go [V3 none 0 0,V3 none 0 0,V3 none 0 0] 73,_,_,_,_]:=lB
    refine wl_nil (qe_held (listed':=#[true,true,true,true,false,false,true,true,true,false,false,true,false]) u ⟨⟨eb.hasK k.le,eb.hasObj m4⟩,(fun _=>trivial),by decide⟩ (wg_many (l:=[4,9]) (by kernel_rfl) u ⟨⟨_,u,?_⟩,⟨_,u,?_⟩,trivial⟩))
    ·refine b0 tGEntry underlying44 tf116 eb fun ec pk lC aU lD cO=>(wl_nil (qe_held (listed':=#[true,true,true,true,true,false,true,true,true,false,false,true,false]) u ⟨⟨cO.hasK (k.le.trans aU),cO.hasObj m5⟩,(fun _=>trivial),by decide⟩ (wg_val (i:=5) (listed':=#[true,true,true,true,true,true,true,true,true,false,false,true,false]) (fun _=>True) u (by kernel_rfl) (pk_then (pk_then pk_body)) (by kernel_rfl) u (by kernel_rfl) (by kernel_rfl) u (.inl fun _ _=>trivial) ⟨⟨cO.hasK (k.le.trans aU),cO.hasObj m5⟩,(fun _=>trivial),by decide⟩ wn u (fun _ _=>(rv_build (cs:=#[V3 o q s,V3 ec 0 0]) sp46 tf46 u (by kernel_rfl))) (wg_one (i:=9) (by kernel_rfl) u (wl_appendR (t:=tInt) wn u underlying71 tf3 u u u u (RowAt.nil tInt _) u (D.mono (k.le.trans aU)) G cO.f2 fun gp gq gr cs279 pl hrow281 hm282 cP=>(wl_nil (qe_held (listed':=#[true,true,true,true,true,true,true,true,true,true,false,true,false]) u ⟨⟨cP.hasK (k.le.trans aU),cP.hasObj m5⟩,(fun _=>trivial),by decide⟩ ?_)))))))
     refine wg_val (i:=10) (listed':=L_ 13 11) (fun _=>True) u (by kernel_rfl) (pk_then (pk_then pk_body)) (by kernel_rfl) u (by kernel_rfl) (by kernel_rfl) u (.inl fun _ _=>trivial) ⟨⟨cP.hasK (k.le.trans aU),cP.hasObj m5⟩,(fun _=>trivial),by decide⟩ wn u (fun _ _=>(rv_build (cs:=#[V3 o q s,V3 ec 0 0,V3 gp gq gr]) sp73 tf73 u (by kernel_rfl))) (wg_one (i:=12) (by kernel_rfl) u (lw [V3 o q s,V3 ec 0 0,V3 gp gq gr] tf73 cP.f2 fun pm gv=>(wl_nil (qe_held (listed':=L_ 13 12) u ⟨⟨gv.hasK (k.le.trans aU),gv.hasObj m5⟩,(fun _=>trivial),by decide⟩ (wg_done (by kernel_rfl) ?_)))))
     cases oi y
     exact qd ⟨go,o,q,s,ec,0,0,gp,gq,gr,cs279,lC,u,gv.f4.f5.f4.f4.f4.s,(k.le.trans aU),(ah.mono aU),lD,hrow281,hm282⟩
    have lE:=eb.f1
    refine wl_appendR (t:=tInt) wn u underlying71 tf3 u u u u (RowAt.nil tInt _) u (D.mono k.le) G lE fun gw gx gy cs297 pn hrow299 hm300 gz=>(wl_nil (qe_held (listed':=#[true,true,true,true,false,false,true,true,true,true,false,true,false]) u ⟨⟨gz.hasK k.le,gz.hasObj m4⟩,(fun _=>trivial),by decide⟩ (wg_one (i:=4) (by kernel_rfl) u (b0 tGEntry underlying44 tf116 gz fun ed po lF br lG bs=>(wl_nil (qe_held (listed':=#[true,true,true,true,true,false,true,true,true,true,false,true,false]) u ⟨⟨bs.hasK (k.le.trans br),bs.hasObj m5⟩,(fun _=>trivial),by decide⟩ (wg_val (i:=5) (listed':=#[true,true,true,true,true,true,true,true,true,true,false,true,false]) (fun _=>True) u (by kernel_rfl) (pk_then (pk_then pk_body)) (by kernel_rfl) u (by kernel_rfl) (by kernel_rfl) u (.inl fun _ _=>trivial) ⟨⟨bs.hasK (k.le.trans br),bs.hasObj m5⟩,(fun _=>trivial),by decide⟩ wn u (fun _ _=>(rv_build (cs:=#[V3 o q s,V3 ed 0 0]) sp46 tf46 u (by kernel_rfl))) ?_)))))))
    refine wg_val (i:=10) (listed':=L_ 13 11) (fun _=>True) u (by kernel_rfl) (pk_then (pk_then pk_body)) (by kernel_rfl) u (by kernel_rfl) (by kernel_rfl) u (.inl fun _ _=>trivial) ⟨⟨bs.hasK (k.le.trans br),bs.hasObj m5⟩,(fun _=>trivial),by decide⟩ wn u (fun _ _=>(rv_build (cs:=#[V3 o q s,V3 ed 0 0,V3 gw gx gy]) sp73 tf73 u (by kernel_rfl))) (wg_one (i:=12) (by kernel_rfl) u (lw [V3 o q s,V3 ed 0 0,V3 gw gx gy] tf73 bs.f2 fun pp gA=>(wl_nil (qe_held (listed':=L_ 13 12) u ⟨⟨gA.hasK (k.le.trans br),gA.hasObj m5⟩,(fun _=>trivial),by decide⟩ (wg_done (by kernel_rfl) ?_)))))
    cases oi y
    exact qd ⟨go,o,q,s,ed,0,0,gw,gx,gy,cs297,lF,u,gA.f4.f5.f3.f4.f4.s,(k.le.trans br),(ah.mono br),lG,(RowAt.mono br hrow299),hm300⟩
   refine al tf73 cH fun ee pq lH=>?_
   have ef:SH _ _ _ _ _ [obj ee [V3 none 0 0,V3 none 0 0,V3 none 0 0] 73,_,_,_]:=lH
   refine wl_nil (qe_held (listed':=#[true,true,true,true,false,false,false,true,true,false,false,true,false]) u ⟨⟨ef.hasK k.le,ef.hasObj m3⟩,(fun _=>trivial),by decide⟩ (wg_many (l:=[4,6]) (by kernel_rfl) u ⟨⟨_,u,?_⟩,⟨_,u,?_⟩,trivial⟩))
   ·refine b0 tGEntry underlying44 tf116 ef fun eg pr lI aF lJ cQ=>(wl_nil (qe_held (listed':=#[true,true,true,true,true,false,false,true,true,false,false,true,false]) u ⟨⟨cQ.hasK (k.le.trans aF),cQ.hasObj m4⟩,(fun _=>trivial),by decide⟩ (wg_val (i:=5) (listed':=#[true,true,true,true,true,true,false,true,true,false,false,true,false]) (fun _=>True) u (by kernel_rfl) (pk_then (pk_then pk_body)) (by kernel_rfl) u (by kernel_rfl) (by kernel_rfl) u (.inl fun _ _=>trivial) ⟨⟨cQ.hasK (k.le.trans aF),cQ.hasObj m4⟩,(fun _=>trivial),by decide⟩ wn u (fun _ _=>(rv_build (cs:=#[V3 o q s,V3 eg 0 0]) sp46 tf46 u (by kernel_rfl))) (wg_one (i:=6) (by kernel_rfl) u (wl_buildSlice0R tInt wn u underlying71 tf3 cQ fun ps pu gB=>(wl_nil (qe_held (listed':=#[true,true,true,true,true,true,true,true,true,false,false,true,false]) u ⟨⟨gB.hasK (k.le.trans aF),gB.hasObj m5⟩,(fun _=>trivial),by decide⟩ (wg_one (i:=9) (by kernel_rfl) u (wl_appendR (t:=tInt) wn u underlying71 tf3 u u u u (RowAt.nil tInt _) u (D.mono (k.le.trans aF)) G gB fun gC gD gE cs333 pv hrow335 hm336 cR=>?_)))))))))
    refine wl_nil (qe_held (listed':=#[true,true,true,true,true,true,true,true,true,true,false,true,false]) u ⟨⟨cR.hasK (k.le.trans aF),cR.hasObj m5⟩,(fun _=>trivial),by decide⟩ (wg_val (i:=10) (listed':=L_ 13 11) (fun _=>True) u (by kernel_rfl) (pk_then (pk_then pk_body)) (by kernel_rfl) u (by kernel_rfl) (by kernel_rfl) u (.inl fun _ _=>trivial) ⟨⟨cR.hasK (k.le.trans aF),cR.hasObj m5⟩,(fun _=>trivial),by decide⟩ wn u (fun _ _=>(rv_build (cs:=#[V3 o q s,V3 eg 0 0,V3 gC gD gE]) sp73 tf73 u (by kernel_rfl))) (wg_one (i:=12) (by kernel_rfl) u (lw [V3 o q s,V3 eg 0 0,V3 gC gD gE] tf73 cR.f2 fun pw gF=>(wl_nil (qe_held (listed':=L_ 13 12) u ⟨⟨gF.hasK (k.le.trans aF),gF.hasObj m5⟩,(fun _=>trivial),by decide⟩ (wg_done (by kernel_rfl) ?_)))))))
    cases oi y
    exact qd ⟨ee,o,q,s,eg,0,0,gC,gD,gE,cs333,lI,u,gF.f4.f5.f4.f4.f4.s,(k.le.trans aF),(ah.mono aF),lJ,hrow335,hm336⟩
   refine wl_buildSlice0R tInt wn u underlying71 tf3 ef fun px py eh=>(wl_nil (qe_held (listed':=#[true,true,true,true,false,false,true,true,true,false,false,true,false]) u ⟨⟨eh.hasK k.le,eh.hasObj m4⟩,(fun _=>trivial),by decide⟩ (wg_many (l:=[4,9]) (by kernel_rfl) u ⟨⟨_,u,?_⟩,⟨_,u,?_⟩,trivial⟩)))
   ·refine b0 tGEntry underlying44 tf116 eh fun ei pz lK aV lL cS=>(wl_nil (qe_held (listed':=#[true,true,true,true,true,false,true,true,true,false,false,true,false]) u ⟨⟨cS.hasK (k.le.trans aV),cS.hasObj m5⟩,(fun _=>trivial),by decide⟩ (wg_val (i:=5) (listed':=#[true,true,true,true,true,true,true,true,true,false,false,true,false]) (fun _=>True) u (by kernel_rfl) (pk_then (pk_then pk_body)) (by kernel_rfl) u (by kernel_rfl) (by kernel_rfl) u (.inl fun _ _=>trivial) ⟨⟨cS.hasK (k.le.trans aV),cS.hasObj m5⟩,(fun _=>trivial),by decide⟩ wn u (fun _ _=>(rv_build (cs:=#[V3 o q s,V3 ei 0 0]) sp46 tf46 u (by kernel_rfl))) (wg_one (i:=9) (by kernel_rfl) u (wl_appendR (t:=tInt) wn u underlying71 tf3 u u u u (RowAt.nil tInt _) u (D.mono (k.le.trans aV)) G cS.f1 fun gG gH gI cs360 pA hrow362 hm363 cT=>(wl_nil (qe_held (listed':=#[true,true,true,true,true,true,true,true,true,true,false,true,false]) u ⟨⟨cT.hasK (k.le.trans aV),cT.hasObj m5⟩,(fun _=>trivial),by decide⟩ ?_)))))))
    refine wg_val (i:=10) (listed':=L_ 13 11) (fun _=>True) u (by kernel_rfl) (pk_then (pk_then pk_body)) (by kernel_rfl) u (by kernel_rfl) (by kernel_rfl) u (.inl fun _ _=>trivial) ⟨⟨cT.hasK (k.le.trans aV),cT.hasObj m5⟩,(fun _=>trivial),by decide⟩ wn u (fun _ _=>(rv_build (cs:=#[V3 o q s,V3 ei 0 0,V3 gG gH gI]) sp73 tf73 u (by kernel_rfl))) (wg_one (i:=12) (by kernel_rfl) u (lw [V3 o q s,V3 ei 0 0,V3 gG gH gI] tf73 cT.f2 fun pB gJ=>(wl_nil (qe_held (listed':=L_ 13 12) u ⟨⟨gJ.hasK (k.le.trans aV),gJ.hasObj m5⟩,(fun _=>trivial),by decide⟩ (wg_done (by kernel_rfl) ?_)))))
    cases oi y
    exact qd ⟨ee,o,q,s,ei,0,0,gG,gH,gI,cs360,lK,u,gJ.f4.f5.f4.f4.f4.s,(k.le.trans aV),(ah.mono aV),lL,hrow362,hm363⟩
   refine wl_appendR (t:=tInt) wn u underlying71 tf3 u u u u (RowAt.nil tInt _) u (D.mono k.le) G eh fun gK gL gM cs377 pC hrow379 hm380 gN=>(wl_nil (qe_held (listed':=#[true,true,true,true,false,false,true,true,true,true,false,true,false]) u ⟨⟨gN.hasK k.le,gN.hasObj m4⟩,(fun _=>trivial),by decide⟩ (wg_one (i:=4) (by kernel_rfl) u (b0 tGEntry underlying44 tf116 gN fun ej pD lM bu lN bv=>(wl_nil (qe_held (listed':=#[true,true,true,true,true,false,true,true,true,true,false,true,false]) u ⟨⟨bv.hasK (k.le.trans bu),bv.hasObj m5⟩,(fun _=>trivial),by decide⟩ (wg_val (i:=5) (listed':=#[true,true,true,true,true,true,true,true,true,true,false,true,false]) (fun _=>True) u (by kernel_rfl) (pk_then (pk_then pk_body)) (by kernel_rfl) u (by kernel_rfl) (by kernel_rfl) u (.inl fun _ _=>trivial) ⟨⟨bv.hasK (k.le.trans bu),bv.hasObj m5⟩,(fun _=>trivial),by decide⟩ wn u (fun _ _=>(rv_build (cs:=#[V3 o q s,V3 ej 0 0]) sp46 tf46 u (by kernel_rfl))) ?_)))))))
   refine wg_val (i:=10) (listed':=L_ 13 11) (fun _=>True) u (by kernel_rfl) (pk_then (pk_then pk_body)) (by kernel_rfl) u (by kernel_rfl) (by kernel_rfl) u (.inl fun _ _=>trivial) ⟨⟨bv.hasK (k.le.trans bu),bv.hasObj m5⟩,(fun _=>trivial),by decide⟩ wn u (fun _ _=>(rv_build (cs:=#[V3 o q s,V3 ej 0 0,V3 gK gL gM]) sp73 tf73 u (by kernel_rfl))) (wg_one (i:=12) (by kernel_rfl) u (lw [V3 o q s,V3 ej 0 0,V3 gK gL gM] tf73 bv.f2 fun pE gO=>(wl_nil (qe_held (listed':=L_ 13 12) u ⟨⟨gO.hasK (k.le.trans bu),gO.hasObj m5⟩,(fun _=>trivial),by decide⟩ (wg_done (by kernel_rfl) ?_)))))
   cases oi y
   exact qd ⟨ee,o,q,s,ej,0,0,gK,gL,gM,cs377,lM,u,gO.f4.f5.f3.f4.f4.s,(k.le.trans bu),(ah.mono bu),lN,(RowAt.mono bu hrow379),hm380⟩
  ·refine b0 tGEntry underlying44 tf116 ag fun H pF pG m aW cg=>(wl_nil (qe_held (listed':=#[true,true,true,false,true,false,false,true,true,false,false,false,false]) u ⟨⟨cg.hasK m,cg.hasObj m2⟩,(fun _=>trivial),by decide⟩ (wg_many (l:=[3,6,11]) (by kernel_rfl) u ⟨⟨_,u,?_⟩,⟨_,u,?_⟩,⟨_,u,?_⟩,trivial⟩)))
   ·refine lk co72 (ok_impl_cloneDocs F cg.enter0 (aa.mono m) ab) ?_
    rintro pH pI ⟨aw,ax,ay,gP,rfl,I,gQ⟩
    have ch:=(cg.c0 I).t4
    refine wl_nil (qe_held (listed':=#[true,true,true,true,true,false,false,true,true,false,false,false,false]) u ⟨⟨ch.hasK (m.trans I.le),ch.hasObj m3⟩,(fun _=>trivial),by decide⟩ (wg_val (i:=5) (listed':=#[true,true,true,true,true,true,false,true,true,false,false,false,false]) (fun _=>True) u (by kernel_rfl) (pk_then (pk_then pk_body)) (by kernel_rfl) u (by kernel_rfl) (by kernel_rfl) u (.inl fun _ _=>trivial) ⟨⟨ch.hasK (m.trans I.le),ch.hasObj m3⟩,(fun _=>trivial),by decide⟩ wn u (fun _ _=>(rv_build (cs:=#[V3 aw ax ay,V3 H 0 0]) sp46 tf46 u (by kernel_rfl))) (wg_many (l:=[6,11]) (by kernel_rfl) u ⟨⟨_,u,?_⟩,⟨_,u,?_⟩,trivial⟩)))
    ·refine wl_buildSlice0R tInt wn u underlying71 tf3 ch fun pJ pK ek=>(wl_nil (qe_held (listed':=L_ 13 8) u ⟨⟨ek.hasK (m.trans I.le),ek.hasObj m4⟩,(fun _=>trivial),by decide⟩ (wg_many (l:=[9,11]) (by kernel_rfl) u ⟨⟨_,u,?_⟩,⟨_,u,?_⟩,trivial⟩)))
     ·refine wl_appendR (t:=tInt) wn u underlying71 tf3 u u u u (RowAt.nil tInt _) u (D.mono (m.trans I.le)) G ek fun gR gS gT cs418 pL hrow420 hm421 cU=>(wl_nil (qe_held (listed':=L_ 13 9) u ⟨⟨cU.hasK (m.trans I.le),cU.hasObj m4⟩,(fun _=>trivial),by decide⟩ (wg_val (i:=10) (listed':=L_ 13 10) (fun _=>True) u (by kernel_rfl) (pk_then (pk_then pk_body)) (by kernel_rfl) u (by kernel_rfl) (by kernel_rfl) u (.inl fun _ _=>trivial) ⟨⟨cU.hasK (m.trans I.le),cU.hasObj m4⟩,(fun _=>trivial),by decide⟩ wn u (fun _ _=>(rv_build (cs:=#[V3 aw ax ay,V3 H 0 0,V3 gR gS gT]) sp73 tf73 u (by kernel_rfl))) (wg_one (i:=11) (by kernel_rfl) u (al tf73 cU fun ks pM lO=>?_)))))
      have gU:SH _ _ _ _ _ [obj ks [V3 none 0 0,V3 none 0 0,V3 none 0 0] 73,_,_,_,_,_]:=lO
      refine wl_nil (qe_held (listed':=L_ 13 11) u ⟨⟨gU.hasK (m.trans I.le),gU.hasObj m5⟩,(fun _=>trivial),by decide⟩ (wg_one (i:=12) (by kernel_rfl) u (lw [V3 aw ax ay,V3 H 0 0,V3 gR gS gT] tf73 gU fun pN gV=>(wl_nil (qe_held (listed':=L_ 13 12) u ⟨⟨gV.hasK (m.trans I.le),gV.hasObj m5⟩,(fun _=>trivial),by decide⟩ (wg_done (by kernel_rfl) ?_))))))
      cases oi y
      exact qd ⟨ks,aw,ax,ay,H,0,0,gR,gS,gT,cs418,gP,u,gV.f4.f5.f5.f4.f4.s,(m.trans I.le),gQ,(aW.mono I.le),hrow420,hm421⟩
     refine al tf73 ek fun kt pO lP=>?_
     have gW:SH _ _ _ _ _ [obj kt [V3 none 0 0,V3 none 0 0,V3 none 0 0] 73,_,_,_,_,_]:=lP
     refine wl_nil (qe_held (listed':=#[true,true,true,true,true,true,true,true,true,false,false,true,false]) u ⟨⟨gW.hasK (m.trans I.le),gW.hasObj m5⟩,(fun _=>trivial),by decide⟩ (wg_one (i:=9) (by kernel_rfl) u (wl_appendR (t:=tInt) wn u underlying71 tf3 u u u u (RowAt.nil tInt _) u (D.mono (m.trans I.le)) G gW.f1 fun gX gY gZ cs443 pP hrow445 hm446 cV=>(wl_nil (qe_held (listed':=#[true,true,true,true,true,true,true,true,true,true,false,true,false]) u ⟨⟨cV.hasK (m.trans I.le),cV.hasObj m5⟩,(fun _=>trivial),by decide⟩ (wg_val (i:=10) (listed':=L_ 13 11) (fun _=>True) u (by kernel_rfl) (pk_then (pk_then pk_body)) (by kernel_rfl) u (by kernel_rfl) (by kernel_rfl) u (.inl fun _ _=>trivial) ⟨⟨cV.hasK (m.trans I.le),cV.hasObj m5⟩,(fun _=>trivial),by decide⟩ wn u (fun _ _=>(rv_build (cs:=#[V3 aw ax ay,V3 H 0 0,V3 gX gY gZ]) sp73 tf73 u (by kernel_rfl))) (wg_one (i:=12) (by kernel_rfl) u (lw [V3 aw ax ay,V3 H 0 0,V3 gX gY gZ] tf73 cV.f1 fun pQ hb=>?_))))))))
     refine wl_nil (qe_held (listed':=L_ 13 12) u ⟨⟨hb.hasK (m.trans I.le),hb.hasObj m5⟩,(fun _=>trivial),by decide⟩ (wg_done (by kernel_rfl) ?_))
     cases oi y
     exact qd ⟨kt,aw,ax,ay,H,0,0,gX,gY,gZ,cs443,gP,u,hb.f4.f5.f5.f4.f4.s,(m.trans I.le),gQ,(aW.mono I.le),hrow445,hm446⟩
    refine al tf73 ch fun kw pR lQ=>?_
    have hc:SH _ _ _ _ _ [obj kw [V3 none 0 0,V3 none 0 0,V3 none 0 0] 73,_,_,_,_]:=lQ
    refine wl_nil (qe_held (listed':=#[true,true,true,true,true,true,false,true,true,false,false,true,false]) u ⟨⟨hc.hasK (m.trans I.le),hc.hasObj m4⟩,(fun _=>trivial),by decide⟩ (wg_one (i:=6) (by kernel_rfl) u (wl_buildSlice0R tInt wn u underlying71 tf3 hc fun pS pT hd=>(wl_nil (qe_held (listed':=#[true,true,true,true,true,true,true,true,true,false,false,true,false]) u ⟨⟨hd.hasK (m.trans I.le),hd.hasObj m5⟩,(fun _=>trivial),by decide⟩ (wg_one (i:=9) (by kernel_rfl) u (wl_appendR (t:=tInt) wn u underlying71 tf3 u u u u (RowAt.nil tInt _) u (D.mono (m.trans I.le)) G hd fun he hf hg cs467 pU hrow469 hm470 cW=>(wl_nil (qe_held (listed':=#[true,true,true,true,true,true,true,true,true,true,false,true,false]) u ⟨⟨cW.hasK (m.trans I.le),cW.hasObj m5⟩,(fun _=>trivial),by decide⟩ ?_)))))))))
    refine wg_val (i:=10) (listed':=L_ 13 11) (fun _=>True) u (by kernel_rfl) (pk_then (pk_then pk_body)) (by kernel_rfl) u (by kernel_rfl) (by kernel_rfl) u (.inl fun _ _=>trivial) ⟨⟨cW.hasK (m.trans I.le),cW.hasObj m5⟩,(fun _=>trivial),by decide⟩ wn u (fun _ _=>(rv_build (cs:=#[V3 aw ax ay,V3 H 0 0,V3 he hf hg]) sp73 tf73 u (by kernel_rfl))) (wg_one (i:=12) (by kernel_rfl) u (lw [V3 aw ax ay,V3 H 0 0,V3 he hf hg] tf73 cW.f1 fun pV hh=>(wl_nil (qe_held (listed':=L_ 13 12) u ⟨⟨hh.hasK (m.trans I.le),hh.hasObj m5⟩,(fun _=>trivial),by decide⟩ (wg_done (by kernel_rfl) ?_)))))
    cases oi y
    exact qd ⟨kw,aw,ax,ay,H,0,0,he,hf,hg,cs467,gP,u,hh.f4.f5.f5.f4.f4.s,(m.trans I.le),gQ,(aW.mono I.le),hrow469,hm470⟩
   ·refine wl_buildSlice0R tInt wn u underlying71 tf3 cg fun pW pX cX=>(wl_nil (qe_held (listed':=#[true,true,true,false,true,false,true,true,true,false,false,false,false]) u ⟨⟨cX.hasK m,cX.hasObj m3⟩,(fun _=>trivial),by decide⟩ (wg_many (l:=[3,11]) (by kernel_rfl) u ⟨⟨_,u,?_⟩,⟨_,u,?_⟩,trivial⟩)))
    ·refine lk co72 (ok_impl_cloneDocs F cX.enter0 (aa.mono m) ab) ?_
     rintro pY pZ ⟨bz,bA,bB,kx,rfl,W,ky⟩
     have cj:=(cX.c0 W).t5
     refine wl_nil (qe_held (listed':=#[true,true,true,true,true,false,true,true,true,false,false,false,false]) u ⟨⟨cj.hasK (m.trans W.le),cj.hasObj m4⟩,(fun _=>trivial),by decide⟩ (wg_val (i:=5) (listed':=L_ 13 8) (fun _=>True) u (by kernel_rfl) (pk_then (pk_then pk_body)) (by kernel_rfl) u (by kernel_rfl) (by kernel_rfl) u (.inl fun _ _=>trivial) ⟨⟨cj.hasK (m.trans W.le),cj.hasObj m4⟩,(fun _=>trivial),by decide⟩ wn u (fun _ _=>(rv_build (cs:=#[V3 bz bA bB,V3 H 0 0]) sp46 tf46 u (by kernel_rfl))) (wg_many (l:=[9,11]) (by kernel_rfl) u ⟨⟨_,u,?_⟩,⟨_,u,?_⟩,trivial⟩)))
     ·have lR:=cj.f1
      refine wl_appendR (t:=tInt) wn u underlying71 tf3 u u u u (RowAt.nil tInt _) u (D.mono (m.trans W.le)) G lR fun hi hj hk cs497 qa hrow499 hm500 cY=>(wl_nil (qe_held (listed':=L_ 13 9) u ⟨⟨cY.hasK (m.trans W.le),cY.hasObj m4⟩,(fun _=>trivial),by decide⟩ (wg_val (i:=10) (listed':=L_ 13 10) (fun _=>True) u (by kernel_rfl) (pk_then (pk_then pk_body)) (by kernel_rfl) u (by kernel_rfl) (by kernel_rfl) u (.inl fun _ _=>trivial) ⟨⟨cY.hasK (m.trans W.le),cY.hasObj m4⟩,(fun _=>trivial),by decide⟩ wn u (fun _ _=>(rv_build (cs:=#[V3 bz bA bB,V3 H 0 0,V3 hi hj hk]) sp73 tf73 u (by kernel_rfl))) (wg_one (i:=11) (by kernel_rfl) u (al tf73 cY fun kz qb lS=>?_)))))
      have hn:SH _ _ _ _ _ [obj kz [V3 none 0 0,V3 none 0 0,V3 none 0 0] 73,_,_,_,_,_]:=lS
      refine wl_nil (qe_held (listed':=L_ 13 11) u ⟨⟨hn.hasK (m.trans W.le),hn.hasObj m5⟩,(fun _=>trivial),by decide⟩ (wg_one (i:=12) (by kernel_rfl) u (lw [V3 bz bA bB,V3 H 0 0,V3 hi hj hk] tf73 hn fun qc ho=>(wl_nil (qe_held (listed':=L_ 13 12) u ⟨⟨ho.hasK (m.trans W.le),ho.hasObj m5⟩,(fun _=>trivial),by decide⟩ (wg_done (by kernel_rfl) ?_))))))
      cases oi y
      exact qd ⟨kz,bz,bA,bB,H,0,0,hi,hj,hk,cs497,kx,u,ho.f4.f5.f5.f4.f4.s,(m.trans W.le),ky,(aW.mono W.le),hrow499,hm500⟩
     refine al tf73 cj fun kA qe lT=>?_
     have hp:SH _ _ _ _ _ [obj kA [V3 none 0 0,V3 none 0 0,V3 none 0 0] 73,_,_,_,_,_]:=lT
     refine wl_nil (qe_held (listed':=#[true,true,true,true,true,true,true,true,true,false,false,true,false]) u ⟨⟨hp.hasK (m.trans W.le),hp.hasObj m5⟩,(fun _=>trivial),by decide⟩ (wg_one (i:=9) (by kernel_rfl) u (wl_appendR (t:=tInt) wn u underlying71 tf3 u u u u (RowAt.nil tInt _) u (D.mono (m.trans W.le)) G hp.f2 fun hq hr ht cs522 qf hrow524 hm525 cZ=>(wl_nil (qe_held (listed':=#[true,true,true,true,true,true,true,true,true,true,false,true,false]) u ⟨⟨cZ.hasK (m.trans W.le),cZ.hasObj m5⟩,(fun _=>trivial),by decide⟩ (wg_val (i:=10) (listed':=L_ 13 11) (fun _=>True) u (by kernel_rfl) (pk_then (pk_then pk_body)) (by kernel_rfl) u (by kernel_rfl) (by kernel_rfl) u (.inl fun _ _=>trivial) ⟨⟨cZ.hasK (m.trans W.le),cZ.hasObj m5⟩,(fun _=>trivial),by decide⟩ wn u (fun _ _=>(rv_build (cs:=#[V3 bz bA bB,V3 H 0 0,V3 hq hr ht]) sp73 tf73 u (by kernel_rfl))) (wg_one (i:=12) (by kernel_rfl) u (lw [V3 bz bA bB,V3 H 0 0,V3 hq hr ht] tf73 cZ.f1 fun qi hu=>?_))))))))
     refine wl_nil (qe_held (listed':=L_ 13 12) u ⟨⟨hu.hasK (m.trans W.le),hu.hasObj m5⟩,(fun _=>trivial),by decide⟩ (wg_done (by kernel_rfl) ?_))
     cases oi y
     exact qd ⟨kA,bz,bA,bB,H,0,0,hq,hr,ht,cs522,kx,u,hu.f4.f5.f5.f4.f4.s,(m.trans W.le),ky,(aW.mono W.le),hrow524,hm525⟩
    refine al tf73 cX fun kB qj lU=>?_
    have el:SH _ _ _ _ _ [obj kB [V3 none 0 0,V3 none 0 0,V3 none 0 0] 73,_,_,_,_]:=lU
    refine wl_nil (qe_held (listed':=#[true,true,true,false,true,false,true,true,true,false,false,true,false]) u ⟨⟨el.hasK m,el.hasObj m4⟩,(fun _=>trivial),by decide⟩ (wg_one (i:=3) (by kernel_rfl) u (lk co72 (ok_impl_cloneDocs F el.enter0 (aa.mono m) ab) ?_)))
    rintro qk ql ⟨em,en,eo,lV,rfl,aG,lW⟩
    have da:=(el.c0 aG).t6
    refine wl_nil (qe_held (listed':=#[true,true,true,true,true,false,true,true,true,false,false,true,false]) u ⟨⟨da.hasK (m.trans aG.le),da.hasObj m5⟩,(fun _=>trivial),by decide⟩ (wg_val (i:=5) (listed':=#[true,true,true,true,true,true,true,true,true,false,false,true,false]) (fun _=>True) u (by kernel_rfl) (pk_then (pk_then pk_body)) (by kernel_rfl) u (by kernel_rfl) (by kernel_rfl) u (.inl fun _ _=>trivial) ⟨⟨da.hasK (m.trans aG.le),da.hasObj m5⟩,(fun _=>trivial),by decide⟩ wn u (fun _ _=>(rv_build (cs:=#[V3 em en eo,V3 H 0 0]) sp46 tf46 u (by kernel_rfl))) (wg_one (i:=9) (by kernel_rfl) u (wl_appendR (t:=tInt) wn u underlying71 tf3 u u u u (RowAt.nil tInt _) u (D.mono (m.trans aG.le)) G da.f2 fun hv hw hx cs553 qn hrow555 hm556 db=>(wl_nil (qe_held (listed':=#[true,true,true,true,true,true,true,true,true,true,false,true,false]) u ⟨⟨db.hasK (m.trans aG.le),db.hasObj m5⟩,(fun _=>trivial),by decide⟩ ?_))))))
    refine wg_val (i:=10) (listed':=L_ 13 11) (fun _=>True) u (by kernel_rfl) (pk_then (pk_then pk_body)) (by kernel_rfl) u (by kernel_rfl) (by kernel_rfl) u (.inl fun _ _=>trivial) ⟨⟨db.hasK (m.trans aG.le),db.hasObj m5⟩,(fun _=>trivial),by decide⟩ wn u (fun _ _=>(rv_build (cs:=#[V3 em en eo,V3 H 0 0,V3 hv hw hx]) sp73 tf73 u (by kernel_rfl))) (wg_one (i:=12) (by kernel_rfl) u (lw [V3 em en eo,V3 H 0 0,V3 hv hw hx] tf73 db.f2 fun qo hy=>(wl_nil (qe_held (listed':=L_ 13 12) u ⟨⟨hy.hasK (m.trans aG.le),hy.hasObj m5⟩,(fun _=>trivial),by decide⟩ (wg_done (by kernel_rfl) ?_)))))
    cases oi y
    exact qd ⟨kB,em,en,eo,H,0,0,hv,hw,hx,cs553,lV,u,hy.f4.f5.f5.f4.f4.s,(m.trans aG.le),lW,(aW.mono aG.le),hrow555,hm556⟩
   refine al tf73 cg fun hz qp lX=>?_
   have dc:SH _ _ _ _ _ [obj hz [V3 none 0 0,V3 none 0 0,V3 none 0 0] 73,_,_,_]:=lX
   refine wl_nil (qe_held (listed':=#[true,true,true,false,true,false,false,true,true,false,false,true,false]) u ⟨⟨dc.hasK m,dc.hasObj m3⟩,(fun _=>trivial),by decide⟩ (wg_many (l:=[3,6]) (by kernel_rfl) u ⟨⟨_,u,?_⟩,⟨_,u,?_⟩,trivial⟩))
   ·refine lk co72 (ok_impl_cloneDocs F dc.enter0 (aa.mono m) ab) ?_
    rintro qq qt ⟨ep,eq,es,lY,rfl,az,lZ⟩
    have dd:=(dc.c0 az).t5
    refine wl_nil (qe_held (listed':=#[true,true,true,true,true,false,false,true,true,false,false,true,false]) u ⟨⟨dd.hasK (m.trans az.le),dd.hasObj m4⟩,(fun _=>trivial),by decide⟩ (wg_val (i:=5) (listed':=#[true,true,true,true,true,true,false,true,true,false,false,true,false]) (fun _=>True) u (by kernel_rfl) (pk_then (pk_then pk_body)) (by kernel_rfl) u (by kernel_rfl) (by kernel_rfl) u (.inl fun _ _=>trivial) ⟨⟨dd.hasK (m.trans az.le),dd.hasObj m4⟩,(fun _=>trivial),by decide⟩ wn u (fun _ _=>(rv_build (cs:=#[V3 ep eq es,V3 H 0 0]) sp46 tf46 u (by kernel_rfl))) (wg_one (i:=6) (by kernel_rfl) u (wl_buildSlice0R tInt wn u underlying71 tf3 dd fun qw qx hA=>(wl_nil (qe_held (listed':=#[true,true,true,true,true,true,true,true,true,false,false,true,false]) u ⟨⟨hA.hasK (m.trans az.le),hA.hasObj m5⟩,(fun _=>trivial),by decide⟩ (wg_one (i:=9) (by kernel_rfl) u (wl_appendR (t:=tInt) wn u underlying71 tf3 u u u u (RowAt.nil tInt _) u (D.mono (m.trans az.le)) G hA fun hB hC hD cs586 qy hrow588 hm589 de=>?_))))))))
    refine wl_nil (qe_held (listed':=#[true,true,true,true,true,true,true,true,true,true,false,true,false]) u ⟨⟨de.hasK (m.trans az.le),de.hasObj m5⟩,(fun _=>trivial),by decide⟩ (wg_val (i:=10) (listed':=L_ 13 11) (fun _=>True) u (by kernel_rfl) (pk_then (pk_then pk_body)) (by kernel_rfl) u (by kernel_rfl) (by kernel_rfl) u (.inl fun _ _=>trivial) ⟨⟨de.hasK (m.trans az.le),de.hasObj m5⟩,(fun _=>trivial),by decide⟩ wn u (fun _ _=>(rv_build (cs:=#[V3 ep eq es,V3 H 0 0,V3 hB hC hD]) sp73 tf73 u (by kernel_rfl))) (wg_one (i:=12) (by kernel_rfl) u (lw [V3 ep eq es,V3 H 0 0,V3 hB hC hD] tf73 de.f2 fun qz hE=>(wl_nil (qe_held (listed':=L_ 13 12) u ⟨⟨hE.hasK (m.trans az.le),hE.hasObj m5⟩,(fun _=>trivial),by decide⟩ (wg_done (by kernel_rfl) ?_)))))))
    cases oi y
    exact qd ⟨hz,ep,eq,es,H,0,0,hB,hC,hD,cs586,lY,u,hE.f4.f5.f5.f4.f4.s,(m.trans az.le),lZ,(aW.mono az.le),hrow588,hm589⟩
   refine wl_buildSlice0R tInt wn u underlying71 tf3 dc fun qA qB et=>(wl_nil (qe_held (listed':=#[true,true,true,false,true,false,true,true,true,false,false,true,false]) u ⟨⟨et.hasK m,et.hasObj m4⟩,(fun _=>trivial),by decide⟩ (wg_one (i:=3) (by kernel_rfl) u (lk co72 (ok_impl_cloneDocs F et.enter0 (aa.mono m) ab) ?_))))
   rintro qC qD ⟨eu,ev,ew,ma,rfl,aH,mb⟩
   have df:=(et.c0 aH).t6
   refine wl_nil (qe_held (listed':=#[true,true,true,true,true,false,true,true,true,false,false,true,false]) u ⟨⟨df.hasK (m.trans aH.le),df.hasObj m5⟩,(fun _=>trivial),by decide⟩ (wg_val (i:=5) (listed':=#[true,true,true,true,true,true,true,true,true,false,false,true,false]) (fun _=>True) u (by kernel_rfl) (pk_then (pk_then pk_body)) (by kernel_rfl) u (by kernel_rfl) (by kernel_rfl) u (.inl fun _ _=>trivial) ⟨⟨df.hasK (m.trans aH.le),df.hasObj m5⟩,(fun _=>trivial),by decide⟩ wn u (fun _ _=>(rv_build (cs:=#[V3 eu ev ew,V3 H 0 0]) sp46 tf46 u (by kernel_rfl))) (wg_one (i:=9) (by kernel_rfl) u (wl_appendR (t:=tInt) wn u underlying71 tf3 u u u u (RowAt.nil tInt _) u (D.mono (m.trans aH.le)) G df.f1 fun hF hG hH cs616 qE hrow618 hm619 dg=>(wl_nil (qe_held (listed':=#[true,true,true,true,true,true,true,true,true,true,false,true,false]) u ⟨⟨dg.hasK (m.trans aH.le),dg.hasObj m5⟩,(fun _=>trivial),by decide⟩ ?_))))))
   refine wg_val (i:=10) (listed':=L_ 13 11) (fun _=>True) u (by kernel_rfl) (pk_then (pk_then pk_body)) (by kernel_rfl) u (by kernel_rfl) (by kernel_rfl) u (.inl fun _ _=>trivial) ⟨⟨dg.hasK (m.trans aH.le),dg.hasObj m5⟩,(fun _=>trivial),by decide⟩ wn u (fun _ _=>(rv_build (cs:=#[V3 eu ev ew,V3 H 0 0,V3 hF hG hH]) sp73 tf73 u (by kernel_rfl))) (wg_one (i:=12) (by kernel_rfl) u (lw [V3 eu ev ew,V3 H 0 0,V3 hF hG hH] tf73 dg.f2 fun qG hI=>(wl_nil (qe_held (listed':=L_ 13 12) u ⟨⟨hI.hasK (m.trans aH.le),hI.hasObj m5⟩,(fun _=>trivial),by decide⟩ (wg_done (by kernel_rfl) ?_)))))
   cases oi y
   exact qd ⟨hz,eu,ev,ew,H,0,0,hF,hG,hH,cs616,ma,u,hI.f4.f5.f5.f4.f4.s,(m.trans aH.le),mb,(aW.mono aH.le),hrow618,hm619⟩
  ·refine wl_buildSlice0R tInt wn u underlying71 tf3 ag fun qH qI ck=>(wl_nil (qe_held (listed':=#[true,true,true,false,false,false,true,true,true,false,false,false,false]) u ⟨⟨ck.hasK kr,ck.hasObj m2⟩,(fun _=>trivial),by decide⟩ (wg_many (l:=[3,4,11]) (by kernel_rfl) u ⟨⟨_,u,?_⟩,⟨_,u,?_⟩,⟨_,u,?_⟩,trivial⟩)))
   ·refine lk co72 (ok_impl_cloneDocs F ck.enter0 aa ab) ?_
    rintro qJ qK ⟨S,T,U,qL,rfl,x,cl⟩
    have dh:=(ck.c0 x).t4
    refine wl_nil (qe_held (listed':=#[true,true,true,true,false,false,true,true,true,false,false,false,false]) u ⟨⟨dh.hasK x.le,dh.hasObj m3⟩,(fun _=>trivial),by decide⟩ (wg_many (l:=[4,9,11]) (by kernel_rfl) u ⟨⟨_,u,?_⟩,⟨_,u,?_⟩,⟨_,u,?_⟩,trivial⟩))
    ·refine b0 tGEntry underlying44 tf116 dh fun bC qM kC ad kD cm=>(wl_nil (qe_held (listed':=#[true,true,true,true,true,false,true,true,true,false,false,false,false]) u ⟨⟨cm.hasK (x.le.trans ad),cm.hasObj m4⟩,(fun _=>trivial),by decide⟩ (wg_val (i:=5) (listed':=L_ 13 8) (fun _=>True) u (by kernel_rfl) (pk_then (pk_then pk_body)) (by kernel_rfl) u (by kernel_rfl) (by kernel_rfl) u (.inl fun _ _=>trivial) ⟨⟨cm.hasK (x.le.trans ad),cm.hasObj m4⟩,(fun _=>trivial),by decide⟩ wn u (fun _ _=>(rv_build (cs:=#[V3 S T U,V3 bC 0 0]) sp46 tf46 u (by kernel_rfl))) (wg_many (l:=[9,11]) (by kernel_rfl) u ⟨⟨_,u,?_⟩,⟨_,u,?_⟩,trivial⟩))))
     ·have mc:=cm.f2
      refine wl_appendR (t:=tInt) wn u underlying71 tf3 u u u u (RowAt.nil tInt _) u (D.mono (x.le.trans ad)) G mc fun hJ hK hL cs652 qN hrow654 hm655 di=>(wl_nil (qe_held (listed':=L_ 13 9) u ⟨⟨di.hasK (x.le.trans ad),di.hasObj m4⟩,(fun _=>trivial),by decide⟩ (wg_val (i:=10) (listed':=L_ 13 10) (fun _=>True) u (by kernel_rfl) (pk_then (pk_then pk_body)) (by kernel_rfl) u (by kernel_rfl) (by kernel_rfl) u (.inl fun _ _=>trivial) ⟨⟨di.hasK (x.le.trans ad),di.hasObj m4⟩,(fun _=>trivial),by decide⟩ wn u (fun _ _=>(rv_build (cs:=#[V3 S T U,V3 bC 0 0,V3 hJ hK hL]) sp73 tf73 u (by kernel_rfl))) (wg_one (i:=11) (by kernel_rfl) u (al tf73 di fun kE qO md=>?_)))))
      have hM:SH _ _ _ _ _ [obj kE [V3 none 0 0,V3 none 0 0,V3 none 0 0] 73,_,_,_,_,_]:=md
      refine wl_nil (qe_held (listed':=L_ 13 11) u ⟨⟨hM.hasK (x.le.trans ad),hM.hasObj m5⟩,(fun _=>trivial),by decide⟩ (wg_one (i:=12) (by kernel_rfl) u (lw [V3 S T U,V3 bC 0 0,V3 hJ hK hL] tf73 hM fun qP hN=>(wl_nil (qe_held (listed':=L_ 13 12) u ⟨⟨hN.hasK (x.le.trans ad),hN.hasObj m5⟩,(fun _=>trivial),by decide⟩ (wg_done (by kernel_rfl) ?_))))))
      cases oi y
      exact qd ⟨kE,S,T,U,bC,0,0,hJ,hK,hL,cs652,kC,u,hN.f4.f5.f4.f4.f4.s,(x.le.trans ad),(cl.mono ad),kD,hrow654,hm655⟩
     refine al tf73 cm fun kF qQ me=>?_
     have hO:SH _ _ _ _ _ [obj kF [V3 none 0 0,V3 none 0 0,V3 none 0 0] 73,_,_,_,_,_]:=me
     refine wl_nil (qe_held (listed':=#[true,true,true,true,true,true,true,true,true,false,false,true,false]) u ⟨⟨hO.hasK (x.le.trans ad),hO.hasObj m5⟩,(fun _=>trivial),by decide⟩ (wg_one (i:=9) (by kernel_rfl) u (wl_appendR (t:=tInt) wn u underlying71 tf3 u u u u (RowAt.nil tInt _) u (D.mono (x.le.trans ad)) G hO.f3 fun hP hQ hR cs677 qR hrow679 hm680 dj=>(wl_nil (qe_held (listed':=#[true,true,true,true,true,true,true,true,true,true,false,true,false]) u ⟨⟨dj.hasK (x.le.trans ad),dj.hasObj m5⟩,(fun _=>trivial),by decide⟩ (wg_val (i:=10) (listed':=L_ 13 11) (fun _=>True) u (by kernel_rfl) (pk_then (pk_then pk_body)) (by kernel_rfl) u (by kernel_rfl) (by kernel_rfl) u (.inl fun _ _=>trivial) ⟨⟨dj.hasK (x.le.trans ad),dj.hasObj m5⟩,(fun _=>trivial),by decide⟩ wn u (fun _ _=>(rv_build (cs:=#[V3 S T U,V3 bC 0 0,V3 hP hQ hR]) sp73 tf73 u (by kernel_rfl))) (wg_one (i:=12) (by kernel_rfl) u (lw [V3 S T U,V3 bC 0 0,V3 hP hQ hR] tf73 dj.f1 fun qS hT=>?_))))))))
     refine wl_nil (qe_held (listed':=L_ 13 12) u ⟨⟨hT.hasK (x.le.trans ad),hT.hasObj m5⟩,(fun _=>trivial),by decide⟩ (wg_done (by kernel_rfl) ?_))
     cases oi y
     exact qd ⟨kF,S,T,U,bC,0,0,hP,hQ,hR,cs677,kC,u,hT.f4.f5.f4.f4.f4.s,(x.le.trans ad),(cl.mono ad),kD,hrow679,hm680⟩
    ·have mf:=dh.f1
     refine wl_appendR (t:=tInt) wn u underlying71 tf3 u u u u (RowAt.nil tInt _) u (D.mono x.le) G mf fun cn cp cq cs695 qT hrow697 hm698 ex=>(wl_nil (qe_held (listed':=#[true,true,true,true,false,false,true,true,true,true,false,false,false]) u ⟨⟨ex.hasK x.le,ex.hasObj m3⟩,(fun _=>trivial),by decide⟩ (wg_many (l:=[4,11]) (by kernel_rfl) u ⟨⟨_,u,?_⟩,⟨_,u,?_⟩,trivial⟩)))
     ·refine b0 tGEntry underlying44 tf116 ex fun eA qU mg aX mh bD=>(wl_nil (qe_held (listed':=#[true,true,true,true,true,false,true,true,true,true,false,false,false]) u ⟨⟨bD.hasK (x.le.trans aX),bD.hasObj m4⟩,(fun _=>trivial),by decide⟩ (wg_val (i:=5) (listed':=L_ 13 9) (fun _=>True) u (by kernel_rfl) (pk_then (pk_then pk_body)) (by kernel_rfl) u (by kernel_rfl) (by kernel_rfl) u (.inl fun _ _=>trivial) ⟨⟨bD.hasK (x.le.trans aX),bD.hasObj m4⟩,(fun _=>trivial),by decide⟩ wn u (fun _ _=>(rv_build (cs:=#[V3 S T U,V3 eA 0 0]) sp46 tf46 u (by kernel_rfl))) (wg_val (i:=10) (listed':=L_ 13 10) (fun _=>True) u (by kernel_rfl) (pk_then (pk_then pk_body)) (by kernel_rfl) u (by kernel_rfl) (by kernel_rfl) u (.inl fun _ _=>trivial) ⟨⟨bD.hasK (x.le.trans aX),bD.hasObj m4⟩,(fun _=>trivial),by decide⟩ wn u (fun _ _=>(rv_build (cs:=#[V3 S T U,V3 eA 0 0,V3 cn cp cq]) sp73 tf73 u (by kernel_rfl))) (wg_one (i:=11) (by kernel_rfl) u (al tf73 bD fun kG qV mi=>?_))))))
      have hU:SH _ _ _ _ _ [obj kG [V3 none 0 0,V3 none 0 0,V3 none 0 0] 73,_,_,_,_,_]:=mi
      refine wl_nil (qe_held (listed':=L_ 13 11) u ⟨⟨hU.hasK (x.le.trans aX),hU.hasObj m5⟩,(fun _=>trivial),by decide⟩ (wg_one (i:=12) (by kernel_rfl) u (lw [V3 S T U,V3 eA 0 0,V3 cn cp cq] tf73 hU fun qW hV=>(wl_nil (qe_held (listed':=L_ 13 12) u ⟨⟨hV.hasK (x.le.trans aX),hV.hasObj m5⟩,(fun _=>trivial),by decide⟩ (wg_done (by kernel_rfl) ?_))))))
      cases oi y
      exact qd ⟨kG,S,T,U,eA,0,0,cn,cp,cq,cs695,mg,u,hV.f4.f5.f3.f4.f4.s,(x.le.trans aX),(cl.mono aX),mh,(RowAt.mono aX hrow697),hm698⟩
     refine al tf73 ex fun kH qX mj=>?_
     have hW:SH _ _ _ _ _ [obj kH [V3 none 0 0,V3 none 0 0,V3 none 0 0] 73,_,_,_,_]:=mj
     refine wl_nil (qe_held (listed':=#[true,true,true,true,false,false,true,true,true,true,false,true,false]) u ⟨⟨hW.hasK x.le,hW.hasObj m4⟩,(fun _=>trivial),by decide⟩ (wg_one (i:=4) (by kernel_rfl) u (b0 tGEntry underlying44 tf116 hW fun eB qY mk bE ml bF=>(wl_nil (qe_held (listed':=#[true,true,true,true,true,false,true,true,true,true,false,true,false]) u ⟨⟨bF.hasK (x.le.trans bE),bF.hasObj m5⟩,(fun _=>trivial),by decide⟩ (wg_val (i:=5) (listed':=#[true,true,true,true,true,true,true,true,true,true,false,true,false]) (fun _=>True) u (by kernel_rfl) (pk_then (pk_then pk_body)) (by kernel_rfl) u (by kernel_rfl) (by kernel_rfl) u (.inl fun _ _=>trivial) ⟨⟨bF.hasK (x.le.trans bE),bF.hasObj m5⟩,(fun _=>trivial),by decide⟩ wn u (fun _ _=>(rv_build (cs:=#[V3 S T U,V3 eB 0 0]) sp46 tf46 u (by kernel_rfl))) ?_))))))
     refine wg_val (i:=10) (listed':=L_ 13 11) (fun _=>True) u (by kernel_rfl) (pk_then (pk_then pk_body)) (by kernel_rfl) u (by kernel_rfl) (by kernel_rfl) u (.inl fun _ _=>trivial) ⟨⟨bF.hasK (x.le.trans bE),bF.hasObj m5⟩,(fun _=>trivial),by decide⟩ wn u (fun _ _=>(rv_build (cs:=#[V3 S T U,V3 eB 0 0,V3 cn cp cq]) sp73 tf73 u (by kernel_rfl))) (wg_one (i:=12) (by kernel_rfl) u (lw [V3 S T U,V3 eB 0 0,V3 cn cp cq] tf73 bF.f1 fun qZ hX=>(wl_nil (qe_held (listed':=L_ 13 12) u ⟨⟨hX.hasK (x.le.trans bE),hX.hasObj m5⟩,(fun _=>trivial),by decide⟩ (wg_done (by kernel_rfl) ?_)))))
     cases oi y
     exact qd ⟨kH,S,T,U,eB,0,0,cn,cp,cq,cs695,mk,u,hX.f4.f5.f3.f4.f4.s,(x.le.trans bE),(cl.mono bE),ml,(RowAt.mono bE hrow697),hm698⟩
    refine al tf73 dh fun hY ra mm=>?_
    have eC:SH _ _ _ _ _ [obj hY [V3 none 0 0,V3 none 0 0,V3 none 0 0] 73,_,_,_,_]:=mm
    refine wl_nil (qe_held (listed':=#[true,true,true,true,false,false,true,true,true,false,false,true,false]) u ⟨⟨eC.hasK x.le,eC.hasObj m4⟩,(fun _=>trivial),by decide⟩ (wg_many (l:=[4,9]) (by kernel_rfl) u ⟨⟨_,u,?_⟩,⟨_,u,?_⟩,trivial⟩))
    ·refine b0 tGEntry underlying44 tf116 eC fun eD rb mn aY mo dk=>(wl_nil (qe_held (listed':=#[true,true,true,true,true,false,true,true,true,false,false,true,false]) u ⟨⟨dk.hasK (x.le.trans aY),dk.hasObj m5⟩,(fun _=>trivial),by decide⟩ (wg_val (i:=5) (listed':=#[true,true,true,true,true,true,true,true,true,false,false,true,false]) (fun _=>True) u (by kernel_rfl) (pk_then (pk_then pk_body)) (by kernel_rfl) u (by kernel_rfl) (by kernel_rfl) u (.inl fun _ _=>trivial) ⟨⟨dk.hasK (x.le.trans aY),dk.hasObj m5⟩,(fun _=>trivial),by decide⟩ wn u (fun _ _=>(rv_build (cs:=#[V3 S T U,V3 eD 0 0]) sp46 tf46 u (by kernel_rfl))) (wg_one (i:=9) (by kernel_rfl) u (wl_appendR (t:=tInt) wn u underlying71 tf3 u u u u (RowAt.nil tInt _) u (D.mono (x.le.trans aY)) G dk.f3 fun hZ ia ib cs751 rc hrow753 hm754 dl=>(wl_nil (qe_held (listed':=#[true,true,true,true,true,true,true,true,true,true,false,true,false]) u ⟨⟨dl.hasK (x.le.trans aY),dl.hasObj m5⟩,(fun _=>trivial),by decide⟩ ?_)))))))
     refine wg_val (i:=10) (listed':=L_ 13 11) (fun _=>True) u (by kernel_rfl) (pk_then (pk_then pk_body)) (by kernel_rfl) u (by kernel_rfl) (by kernel_rfl) u (.inl fun _ _=>trivial) ⟨⟨dl.hasK (x.le.trans aY),dl.hasObj m5⟩,(fun _=>trivial),by decide⟩ wn u (fun _ _=>(rv_build (cs:=#[V3 S T U,V3 eD 0 0,V3 hZ ia ib]) sp73 tf73 u (by kernel_rfl))) (wg_one (i:=12) (by kernel_rfl) u (lw [V3 S T U,V3 eD 0 0,V3 hZ ia ib] tf73 dl.f2 fun rd ic=>(wl_nil (qe_held (listed':=L_ 13 12) u ⟨⟨ic.hasK (x.le.trans aY),ic.hasObj m5⟩,(fun _=>trivial),by decide⟩ (wg_done (by kernel_rfl) ?_)))))
     cases oi y
     exact qd ⟨hY,S,T,U,eD,0,0,hZ,ia,ib,cs751,mn,u,ic.f4.f5.f4.f4.f4.s,(x.le.trans aY),(cl.mono aY),mo,hrow753,hm754⟩
    have mp:=eC.f2
    refine wl_appendR (t:=tInt) wn u underlying71 tf3 u u u u (RowAt.nil tInt _) u (D.mono x.le) G mp fun ie ig ih cs769 re hrow771 hm772 ii=>(wl_nil (qe_held (listed':=#[true,true,true,true,false,false,true,true,true,true,false,true,false]) u ⟨⟨ii.hasK x.le,ii.hasObj m4⟩,(fun _=>trivial),by decide⟩ (wg_one (i:=4) (by kernel_rfl) u (b0 tGEntry underlying44 tf116 ii fun eE rf mq bG mr bH=>(wl_nil (qe_held (listed':=#[true,true,true,true,true,false,true,true,true,true,false,true,false]) u ⟨⟨bH.hasK (x.le.trans bG),bH.hasObj m5⟩,(fun _=>trivial),by decide⟩ (wg_val (i:=5) (listed':=#[true,true,true,true,true,true,true,true,true,true,false,true,false]) (fun _=>True) u (by kernel_rfl) (pk_then (pk_then pk_body)) (by kernel_rfl) u (by kernel_rfl) (by kernel_rfl) u (.inl fun _ _=>trivial) ⟨⟨bH.hasK (x.le.trans bG),bH.hasObj m5⟩,(fun _=>trivial),by decide⟩ wn u (fun _ _=>(rv_build (cs:=#[V3 S T U,V3 eE 0 0]) sp46 tf46 u (by kernel_rfl))) ?_)))))))
    refine wg_val (i:=10) (listed':=L_ 13 11) (fun _=>True) u (by kernel_rfl) (pk_then (pk_then pk_body)) (by kernel_rfl) u (by kernel_rfl) (by kernel_rfl) u (.inl fun _ _=>trivial) ⟨⟨bH.hasK (x.le.trans bG),bH.hasObj m5⟩,(fun _=>trivial),by decide⟩ wn u (fun _ _=>(rv_build (cs:=#[V3 S T U,V3 eE 0 0,V3 ie ig ih]) sp73 tf73 u (by kernel_rfl))) (wg_one (i:=12) (by kernel_rfl) u (lw [V3 S T U,V3 eE 0 0,V3 ie ig ih] tf73 bH.f2 fun rg ij=>(wl_nil (qe_held (listed':=L_ 13 12) u ⟨⟨ij.hasK (x.le.trans bG),ij.hasObj m5⟩,(fun _=>trivial),by decide⟩ (wg_done (by kernel_rfl) ?_)))))
    cases oi y
    exact qd ⟨hY,S,T,U,eE,0,0,ie,ig,ih,cs769,mq,u,ij.f4.f5.f3.f4.f4.s,(x.le.trans bG),(cl.mono bG),mr,(RowAt.mono bG hrow771),hm772⟩
   ·refine b0 tGEntry underlying44 tf116 ck fun ap rh ri O ik dm=>(wl_nil (qe_held (listed':=#[true,true,true,false,true,false,true,true,true,false,false,false,false]) u ⟨⟨dm.hasK O,dm.hasObj m3⟩,(fun _=>trivial),by decide⟩ (wg_many (l:=[3,11]) (by kernel_rfl) u ⟨⟨_,u,?_⟩,⟨_,u,?_⟩,trivial⟩)))
    ·refine lk co72 (ok_impl_cloneDocs F dm.enter0 (aa.mono O) ab) ?_
     rintro rj rk ⟨bI,bJ,bK,kI,rfl,X,kJ⟩
     have cr:=(dm.c0 X).t5
     refine wl_nil (qe_held (listed':=#[true,true,true,true,true,false,true,true,true,false,false,false,false]) u ⟨⟨cr.hasK (O.trans X.le),cr.hasObj m4⟩,(fun _=>trivial),by decide⟩ (wg_val (i:=5) (listed':=L_ 13 8) (fun _=>True) u (by kernel_rfl) (pk_then (pk_then pk_body)) (by kernel_rfl) u (by kernel_rfl) (by kernel_rfl) u (.inl fun _ _=>trivial) ⟨⟨cr.hasK (O.trans X.le),cr.hasObj m4⟩,(fun _=>trivial),by decide⟩ wn u (fun _ _=>(rv_build (cs:=#[V3 bI bJ bK,V3 ap 0 0]) sp46 tf46 u (by kernel_rfl))) (wg_many (l:=[9,11]) (by kernel_rfl) u ⟨⟨_,u,?_⟩,⟨_,u,?_⟩,trivial⟩)))
     ·have ms:=cr.f2
      refine wl_appendR (t:=tInt) wn u underlying71 tf3 u u u u (RowAt.nil tInt _) u (D.mono (O.trans X.le)) G ms fun il im io cs808 rl hrow810 hm811 dn=>(wl_nil (qe_held (listed':=L_ 13 9) u ⟨⟨dn.hasK (O.trans X.le),dn.hasObj m4⟩,(fun _=>trivial),by decide⟩ (wg_val (i:=10) (listed':=L_ 13 10) (fun _=>True) u (by kernel_rfl) (pk_then (pk_then pk_body)) (by kernel_rfl) u (by kernel_rfl) (by kernel_rfl) u (.inl fun _ _=>trivial) ⟨⟨dn.hasK (O.trans X.le),dn.hasObj m4⟩,(fun _=>trivial),by decide⟩ wn u (fun _ _=>(rv_build (cs:=#[V3 bI bJ bK,V3 ap 0 0,V3 il im io]) sp73 tf73 u (by kernel_rfl))) (wg_one (i:=11) (by kernel_rfl) u (al tf73 dn fun kK rm mt=>?_)))))
      have ip:SH _ _ _ _ _ [obj kK [V3 none 0 0,V3 none 0 0,V3 none 0 0] 73,_,_,_,_,_]:=mt
      refine wl_nil (qe_held (listed':=L_ 13 11) u ⟨⟨ip.hasK (O.trans X.le),ip.hasObj m5⟩,(fun _=>trivial),by decide⟩ (wg_one (i:=12) (by kernel_rfl) u (lw [V3 bI bJ bK,V3 ap 0 0,V3 il im io] tf73 ip fun ro iq=>(wl_nil (qe_held (listed':=L_ 13 12) u ⟨⟨iq.hasK (O.trans X.le),iq.hasObj m5⟩,(fun _=>trivial),by decide⟩ (wg_done (by kernel_rfl) ?_))))))
      cases oi y
      exact qd ⟨kK,bI,bJ,bK,ap,0,0,il,im,io,cs808,kI,u,iq.f4.f5.f5.f4.f4.s,(O.trans X.le),kJ,(ik.mono X.le),hrow810,hm811⟩
     refine al tf73 cr fun kL rp mu=>?_
     have ir:SH _ _ _ _ _ [obj kL [V3 none 0 0,V3 none 0 0,V3 none 0 0] 73,_,_,_,_,_]:=mu
     refine wl_nil (qe_held (listed':=#[true,true,true,true,true,true,true,true,true,false,false,true,false]) u ⟨⟨ir.hasK (O.trans X.le),ir.hasObj m5⟩,(fun _=>trivial),by decide⟩ (wg_one (i:=9) (by kernel_rfl) u (wl_appendR (t:=tInt) wn u underlying71 tf3 u u u u (RowAt.nil tInt _) u (D.mono (O.trans X.le)) G ir.f3 fun it iu iv cs833 rq hrow835 hm836 dp=>(wl_nil (qe_held (listed':=#[true,true,true,true,true,true,true,true,true,true,false,true,false]) u ⟨⟨dp.hasK (O.trans X.le),dp.hasObj m5⟩,(fun _=>trivial),by decide⟩ (wg_val (i:=10) (listed':=L_ 13 11) (fun _=>True) u (by kernel_rfl) (pk_then (pk_then pk_body)) (by kernel_rfl) u (by kernel_rfl) (by kernel_rfl) u (.inl fun _ _=>trivial) ⟨⟨dp.hasK (O.trans X.le),dp.hasObj m5⟩,(fun _=>trivial),by decide⟩ wn u (fun _ _=>(rv_build (cs:=#[V3 bI bJ bK,V3 ap 0 0,V3 it iu iv]) sp73 tf73 u (by kernel_rfl))) (wg_one (i:=12) (by kernel_rfl) u (lw [V3 bI bJ bK,V3 ap 0 0,V3 it iu iv] tf73 dp.f1 fun rs iw=>?_))))))))
     refine wl_nil (qe_held (listed':=L_ 13 12) u ⟨⟨iw.hasK (O.trans X.le),iw.hasObj m5⟩,(fun _=>trivial),by decide⟩ (wg_done (by kernel_rfl) ?_))
     cases oi y
     exact qd ⟨kL,bI,bJ,bK,ap,0,0,it,iu,iv,cs833,kI,u,iw.f4.f5.f5.f4.f4.s,(O.trans X.le),kJ,(ik.mono X.le),hrow835,hm836⟩
    refine al tf73 dm fun kM rt mw=>?_
    have eF:SH _ _ _ _ _ [obj kM [V3 none 0 0,V3 none 0 0,V3 none 0 0] 73,_,_,_,_]:=mw
    refine wl_nil (qe_held (listed':=#[true,true,true,false,true,false,true,true,true,false,false,true,false]) u ⟨⟨eF.hasK O,eF.hasObj m4⟩,(fun _=>trivial),by decide⟩ (wg_one (i:=3) (by kernel_rfl) u (lk co72 (ok_impl_cloneDocs F eF.enter0 (aa.mono O) ab) ?_)))
    rintro ru rv ⟨eG,eH,eI,mx,rfl,aI,my⟩
    have dq:=(eF.c0 aI).t6
    refine wl_nil (qe_held (listed':=#[true,true,true,true,true,false,true,true,true,false,false,true,false]) u ⟨⟨dq.hasK (O.trans aI.le),dq.hasObj m5⟩,(fun _=>trivial),by decide⟩ (wg_val (i:=5) (listed':=#[true,true,true,true,true,true,true,true,true,false,false,true,false]) (fun _=>True) u (by kernel_rfl) (pk_then (pk_then pk_body)) (by kernel_rfl) u (by kernel_rfl) (by kernel_rfl) u (.inl fun _ _=>trivial) ⟨⟨dq.hasK (O.trans aI.le),dq.hasObj m5⟩,(fun _=>trivial),by decide⟩ wn u (fun _ _=>(rv_build (cs:=#[V3 eG eH eI,V3 ap 0 0]) sp46 tf46 u (by kernel_rfl))) (wg_one (i:=9) (by kernel_rfl) u (wl_appendR (t:=tInt) wn u underlying71 tf3 u u u u (RowAt.nil tInt _) u (D.mono (O.trans aI.le)) G dq.f3 fun ix iy iz cs864 rx hrow866 hm867 dr=>(wl_nil (qe_held (listed':=#[true,true,true,true,true,true,true,true,true,true,false,true,false]) u ⟨⟨dr.hasK (O.trans aI.le),dr.hasObj m5⟩,(fun _=>trivial),by decide⟩ ?_))))))
    refine wg_val (i:=10) (listed':=L_ 13 11) (fun _=>True) u (by kernel_rfl) (pk_then (pk_then pk_body)) (by kernel_rfl) u (by kernel_rfl) (by kernel_rfl) u (.inl fun _ _=>trivial) ⟨⟨dr.hasK (O.trans aI.le),dr.hasObj m5⟩,(fun _=>trivial),by decide⟩ wn u (fun _ _=>(rv_build (cs:=#[V3 eG eH eI,V3 ap 0 0,V3 ix iy iz]) sp73 tf73 u (by kernel_rfl))) (wg_one (i:=12) (by kernel_rfl) u (lw [V3 eG eH eI,V3 ap 0 0,V3 ix iy iz] tf73 dr.f2 fun ry iA=>(wl_nil (qe_held (listed':=L_ 13 12) u ⟨⟨iA.hasK (O.trans aI.le),iA.hasObj m5⟩,(fun _=>trivial),by decide⟩ (wg_done (by kernel_rfl) ?_)))))
    cases oi y
    exact qd ⟨kM,eG,eH,eI,ap,0,0,ix,iy,iz,cs864,mx,u,iA.f4.f5.f5.f4.f4.s,(O.trans aI.le),my,(ik.mono aI.le),hrow866,hm867⟩
   refine al tf73 ck fun eJ rz mz=>?_
   have dt:SH _ _ _ _ _ [obj eJ [V3 none 0 0,V3 none 0 0,V3 none 0 0] 73,_,_,_]:=mz
   refine wl_nil (qe_held (listed':=#[true,true,true,false,false,false,true,true,true,false,false,true,false]) u ⟨⟨dt.hasK kr,dt.hasObj m3⟩,(fun _=>trivial),by decide⟩ (wg_many (l:=[3,4]) (by kernel_rfl) u ⟨⟨_,u,?_⟩,⟨_,u,?_⟩,trivial⟩))
   ·refine lk co72 (ok_impl_cloneDocs F dt.enter0 aa ab) ?_
    rintro rA rB ⟨aZ,ba,bb,rC,rfl,ae,kN⟩
    have eK:=(dt.c0 ae).t5
    refine wl_nil (qe_held (listed':=#[true,true,true,true,false,false,true,true,true,false,false,true,false]) u ⟨⟨eK.hasK ae.le,eK.hasObj m4⟩,(fun _=>trivial),by decide⟩ (wg_many (l:=[4,9]) (by kernel_rfl) u ⟨⟨_,u,?_⟩,⟨_,u,?_⟩,trivial⟩))
    ·refine b0 tGEntry underlying44 tf116 eK fun eL rD mA bc mB du=>(wl_nil (qe_held (listed':=#[true,true,true,true,true,false,true,true,true,false,false,true,false]) u ⟨⟨du.hasK (ae.le.trans bc),du.hasObj m5⟩,(fun _=>trivial),by decide⟩ (wg_val (i:=5) (listed':=#[true,true,true,true,true,true,true,true,true,false,false,true,false]) (fun _=>True) u (by kernel_rfl) (pk_then (pk_then pk_body)) (by kernel_rfl) u (by kernel_rfl) (by kernel_rfl) u (.inl fun _ _=>trivial) ⟨⟨du.hasK (ae.le.trans bc),du.hasObj m5⟩,(fun _=>trivial),by decide⟩ wn u (fun _ _=>(rv_build (cs:=#[V3 aZ ba bb,V3 eL 0 0]) sp46 tf46 u (by kernel_rfl))) (wg_one (i:=9) (by kernel_rfl) u (wl_appendR (t:=tInt) wn u underlying71 tf3 u u u u (RowAt.nil tInt _) u (D.mono (ae.le.trans bc)) G du.f3 fun iB iC iD cs901 rE hrow903 hm904 dv=>(wl_nil (qe_held (listed':=#[true,true,true,true,true,true,true,true,true,true,false,true,false]) u ⟨⟨dv.hasK (ae.le.trans bc),dv.hasObj m5⟩,(fun _=>trivial),by decide⟩ ?_)))))))
     refine wg_val (i:=10) (listed':=L_ 13 11) (fun _=>True) u (by kernel_rfl) (pk_then (pk_then pk_body)) (by kernel_rfl) u (by kernel_rfl) (by kernel_rfl) u (.inl fun _ _=>trivial) ⟨⟨dv.hasK (ae.le.trans bc),dv.hasObj m5⟩,(fun _=>trivial),by decide⟩ wn u (fun _ _=>(rv_build (cs:=#[V3 aZ ba bb,V3 eL 0 0,V3 iB iC iD]) sp73 tf73 u (by kernel_rfl))) (wg_one (i:=12) (by kernel_rfl) u (lw [V3 aZ ba bb,V3 eL 0 0,V3 iB iC iD] tf73 dv.f3 fun rF iE=>(wl_nil (qe_held (listed':=L_ 13 12) u ⟨⟨iE.hasK (ae.le.trans bc),iE.hasObj m5⟩,(fun _=>trivial),by decide⟩ (wg_done (by kernel_rfl) ?_)))))
     cases oi y
     exact qd ⟨eJ,aZ,ba,bb,eL,0,0,iB,iC,iD,cs901,mA,u,iE.f4.f5.f4.f4.f4.s,(ae.le.trans bc),(kN.mono bc),mB,hrow903,hm904⟩
    have mC:=eK.f2
    refine wl_appendR (t:=tInt) wn u underlying71 tf3 u u u u (RowAt.nil tInt _) u (D.mono ae.le) G mC fun iF iG iH cs919 rG hrow921 hm922 iI=>(wl_nil (qe_held (listed':=#[true,true,true,true,false,false,true,true,true,true,false,true,false]) u ⟨⟨iI.hasK ae.le,iI.hasObj m4⟩,(fun _=>trivial),by decide⟩ (wg_one (i:=4) (by kernel_rfl) u (b0 tGEntry underlying44 tf116 iI fun eM rH mD bL mE bM=>(wl_nil (qe_held (listed':=#[true,true,true,true,true,false,true,true,true,true,false,true,false]) u ⟨⟨bM.hasK (ae.le.trans bL),bM.hasObj m5⟩,(fun _=>trivial),by decide⟩ (wg_val (i:=5) (listed':=#[true,true,true,true,true,true,true,true,true,true,false,true,false]) (fun _=>True) u (by kernel_rfl) (pk_then (pk_then pk_body)) (by kernel_rfl) u (by kernel_rfl) (by kernel_rfl) u (.inl fun _ _=>trivial) ⟨⟨bM.hasK (ae.le.trans bL),bM.hasObj m5⟩,(fun _=>trivial),by decide⟩ wn u (fun _ _=>(rv_build (cs:=#[V3 aZ ba bb,V3 eM 0 0]) sp46 tf46 u (by kernel_rfl))) ?_)))))))
    refine wg_val (i:=10) (listed':=L_ 13 11) (fun _=>True) u (by kernel_rfl) (pk_then (pk_then pk_body)) (by kernel_rfl) u (by kernel_rfl) (by kernel_rfl) u (.inl fun _ _=>trivial) ⟨⟨bM.hasK (ae.le.trans bL),bM.hasObj m5⟩,(fun _=>trivial),by decide⟩ wn u (fun _ _=>(rv_build (cs:=#[V3 aZ ba bb,V3 eM 0 0,V3 iF iG iH]) sp73 tf73 u (by kernel_rfl))) (wg_one (i:=12) (by kernel_rfl) u (lw [V3 aZ ba bb,V3 eM 0 0,V3 iF iG iH] tf73 bM.f3 fun rI iJ=>(wl_nil (qe_held (listed':=L_ 13 12) u ⟨⟨iJ.hasK (ae.le.trans bL),iJ.hasObj m5⟩,(fun _=>trivial),by decide⟩ (wg_done (by kernel_rfl) ?_)))))
    cases oi y
    exact qd ⟨eJ,aZ,ba,bb,eM,0,0,iF,iG,iH,cs919,mD,u,iJ.f4.f5.f3.f4.f4.s,(ae.le.trans bL),(kN.mono bL),mE,(RowAt.mono bL hrow921),hm922⟩
   refine b0 tGEntry underlying44 tf116 dt fun eN rJ rK aJ mF eO=>(wl_nil (qe_held (listed':=#[true,true,true,false,true,false,true,true,true,false,false,true,false]) u ⟨⟨eO.hasK aJ,eO.hasObj m4⟩,(fun _=>trivial),by decide⟩ (wg_one (i:=3) (by kernel_rfl) u (lk co72 (ok_impl_cloneDocs F eO.enter0 (aa.mono aJ) ab) ?_))))
   rintro rL rM ⟨eP,eQ,eR,mG,rfl,aK,mH⟩
   have dw:=(eO.c0 aK).t6
   refine wl_nil (qe_held (listed':=#[true,true,true,true,true,false,true,true,true,false,false,true,false]) u ⟨⟨dw.hasK (aJ.trans aK.le),dw.hasObj m5⟩,(fun _=>trivial),by decide⟩ (wg_val (i:=5) (listed':=#[true,true,true,true,true,true,true,true,true,false,false,true,false]) (fun _=>True) u (by kernel_rfl) (pk_then (pk_then pk_body)) (by kernel_rfl) u (by kernel_rfl) (by kernel_rfl) u (.inl fun _ _=>trivial) ⟨⟨dw.hasK (aJ.trans aK.le),dw.hasObj m5⟩,(fun _=>trivial),by decide⟩ wn u (fun _ _=>(rv_build (cs:=#[V3 eP eQ eR,V3 eN 0 0]) sp46 tf46 u (by kernel_rfl))) (wg_one (i:=9) (by kernel_rfl) u (wl_appendR (t:=tInt) wn u underlying71 tf3 u u u u (RowAt.nil tInt _) u (D.mono (aJ.trans aK.le)) G dw.f3 fun iK iL iM cs958 rN hrow960 hm961 dx=>(wl_nil (qe_held (listed':=#[true,true,true,true,true,true,true,true,true,true,false,true,false]) u ⟨⟨dx.hasK (aJ.trans aK.le),dx.hasObj m5⟩,(fun _=>trivial),by decide⟩ ?_))))))
   refine wg_val (i:=10) (listed':=L_ 13 11) (fun _=>True) u (by kernel_rfl) (pk_then (pk_then pk_body)) (by kernel_rfl) u (by kernel_rfl) (by kernel_rfl) u (.inl fun _ _=>trivial) ⟨⟨dx.hasK (aJ.trans aK.le),dx.hasObj m5⟩,(fun _=>trivial),by decide⟩ wn u (fun _ _=>(rv_build (cs:=#[V3 eP eQ eR,V3 eN 0 0,V3 iK iL iM]) sp73 tf73 u (by kernel_rfl))) (wg_one (i:=12) (by kernel_rfl) u (lw [V3 eP eQ eR,V3 eN 0 0,V3 iK iL iM] tf73 dx.f3 fun rO iN=>(wl_nil (qe_held (listed':=L_ 13 12) u ⟨⟨iN.hasK (aJ.trans aK.le),iN.hasObj m5⟩,(fun _=>trivial),by decide⟩ (wg_done (by kernel_rfl) ?_)))))
   cases oi y
   exact qd ⟨eJ,eP,eQ,eR,eN,0,0,iK,iL,iM,cs958,mG,u,iN.f4.f5.f5.f4.f4.s,(aJ.trans aK.le),mH,(mF.mono aK.le),hrow960,hm961⟩
  refine al tf73 ag fun aL rP mI=>?_
  have ct:SH _ _ _ _ _ [obj aL [V3 none 0 0,V3 none 0 0,V3 none 0 0] 73,_,_]:=mI
  refine wl_nil (qe_held (listed':=#[true,true,true,false,false,false,false,true,true,false,false,true,false]) u ⟨⟨ct.hasK kr,ct.hasObj m2⟩,(fun _=>trivial),by decide⟩ (wg_many (l:=[3,4,6]) (by kernel_rfl) u ⟨⟨_,u,?_⟩,⟨_,u,?_⟩,⟨_,u,?_⟩,trivial⟩))
  ·refine lk co72 (ok_impl_cloneDocs F ct.enter0 aa ab) ?_
   rintro rQ rR ⟨ai,aj,ak,rS,rfl,R,iO⟩
   have eS:=(ct.c0 R).t4
   refine wl_nil (qe_held (listed':=#[true,true,true,true,false,false,false,true,true,false,false,true,false]) u ⟨⟨eS.hasK R.le,eS.hasObj m3⟩,(fun _=>trivial),by decide⟩ (wg_many (l:=[4,6]) (by kernel_rfl) u ⟨⟨_,u,?_⟩,⟨_,u,?_⟩,trivial⟩))
   ·refine b0 tGEntry underlying44 tf116 eS fun eT rT mJ aM mK dy=>(wl_nil (qe_held (listed':=#[true,true,true,true,true,false,false,true,true,false,false,true,false]) u ⟨⟨dy.hasK (R.le.trans aM),dy.hasObj m4⟩,(fun _=>trivial),by decide⟩ (wg_val (i:=5) (listed':=#[true,true,true,true,true,true,false,true,true,false,false,true,false]) (fun _=>True) u (by kernel_rfl) (pk_then (pk_then pk_body)) (by kernel_rfl) u (by kernel_rfl) (by kernel_rfl) u (.inl fun _ _=>trivial) ⟨⟨dy.hasK (R.le.trans aM),dy.hasObj m4⟩,(fun _=>trivial),by decide⟩ wn u (fun _ _=>(rv_build (cs:=#[V3 ai aj ak,V3 eT 0 0]) sp46 tf46 u (by kernel_rfl))) (wg_one (i:=6) (by kernel_rfl) u (wl_buildSlice0R tInt wn u underlying71 tf3 dy fun rU rV iP=>(wl_nil (qe_held (listed':=#[true,true,true,true,true,true,true,true,true,false,false,true,false]) u ⟨⟨iP.hasK (R.le.trans aM),iP.hasObj m5⟩,(fun _=>trivial),by decide⟩ (wg_one (i:=9) (by kernel_rfl) u (wl_appendR (t:=tInt) wn u underlying71 tf3 u u u u (RowAt.nil tInt _) u (D.mono (R.le.trans aM)) G iP fun iQ iR iS cs997 rW hrow999 hm1000 dz=>?_)))))))))
    refine wl_nil (qe_held (listed':=#[true,true,true,true,true,true,true,true,true,true,false,true,false]) u ⟨⟨dz.hasK (R.le.trans aM),dz.hasObj m5⟩,(fun _=>trivial),by decide⟩ (wg_val (i:=10) (listed':=L_ 13 11) (fun _=>True) u (by kernel_rfl) (pk_then (pk_then pk_body)) (by kernel_rfl) u (by kernel_rfl) (by kernel_rfl) u (.inl fun _ _=>trivial) ⟨⟨dz.hasK (R.le.trans aM),dz.hasObj m5⟩,(fun _=>trivial),by decide⟩ wn u (fun _ _=>(rv_build (cs:=#[V3 ai aj ak,V3 eT 0 0,V3 iQ iR iS]) sp73 tf73 u (by kernel_rfl))) (wg_one (i:=12) (by kernel_rfl) u (lw [V3 ai aj ak,V3 eT 0 0,V3 iQ iR iS] tf73 dz.f3 fun rX iT=>(wl_nil (qe_held (listed':=L_ 13 12) u ⟨⟨iT.hasK (R.le.trans aM),iT.hasObj m5⟩,(fun _=>trivial),by decide⟩ (wg_done (by kernel_rfl) ?_)))))))
    cases oi y
    exact qd ⟨aL,ai,aj,ak,eT,0,0,iQ,iR,iS,cs997,mJ,u,iT.f4.f5.f4.f4.f4.s,(R.le.trans aM),(iO.mono aM),mK,hrow999,hm1000⟩
   refine wl_buildSlice0R tInt wn u underlying71 tf3 eS fun rY rZ eU=>(wl_nil (qe_held (listed':=#[true,true,true,true,false,false,true,true,true,false,false,true,false]) u ⟨⟨eU.hasK R.le,eU.hasObj m4⟩,(fun _=>trivial),by decide⟩ (wg_many (l:=[4,9]) (by kernel_rfl) u ⟨⟨_,u,?_⟩,⟨_,u,?_⟩,trivial⟩)))
   ·refine b0 tGEntry underlying44 tf116 eU fun eV sa mL bd mM dA=>(wl_nil (qe_held (listed':=#[true,true,true,true,true,false,true,true,true,false,false,true,false]) u ⟨⟨dA.hasK (R.le.trans bd),dA.hasObj m5⟩,(fun _=>trivial),by decide⟩ (wg_val (i:=5) (listed':=#[true,true,true,true,true,true,true,true,true,false,false,true,false]) (fun _=>True) u (by kernel_rfl) (pk_then (pk_then pk_body)) (by kernel_rfl) u (by kernel_rfl) (by kernel_rfl) u (.inl fun _ _=>trivial) ⟨⟨dA.hasK (R.le.trans bd),dA.hasObj m5⟩,(fun _=>trivial),by decide⟩ wn u (fun _ _=>(rv_build (cs:=#[V3 ai aj ak,V3 eV 0 0]) sp46 tf46 u (by kernel_rfl))) (wg_one (i:=9) (by kernel_rfl) u (wl_appendR (t:=tInt) wn u underlying71 tf3 u u u u (RowAt.nil tInt _) u (D.mono (R.le.trans bd)) G dA.f1 fun iU iV iW cs1024 sb hrow1026 hm1027 dB=>(wl_nil (qe_held (listed':=#[true,true,true,true,true,true,true,true,true,true,false,true,false]) u ⟨⟨dB.hasK (R.le.trans bd),dB.hasObj m5⟩,(fun _=>trivial),by decide⟩ ?_)))))))
    refine wg_val (i:=10) (listed':=L_ 13 11) (fun _=>True) u (by kernel_rfl) (pk_then (pk_then pk_body)) (by kernel_rfl) u (by kernel_rfl) (by kernel_rfl) u (.inl fun _ _=>trivial) ⟨⟨dB.hasK (R.le.trans bd),dB.hasObj m5⟩,(fun _=>trivial),by decide⟩ wn u (fun _ _=>(rv_build (cs:=#[V3 ai aj ak,V3 eV 0 0,V3 iU iV iW]) sp73 tf73 u (by kernel_rfl))) (wg_one (i:=12) (by kernel_rfl) u (lw [V3 ai aj ak,V3 eV 0 0,V3 iU iV iW] tf73 dB.f3 fun sc iX=>(wl_nil (qe_held (listed':=L_ 13 12) u ⟨⟨iX.hasK (R.le.trans bd),iX.hasObj m5⟩,(fun _=>trivial),by decide⟩ (wg_done (by kernel_rfl) ?_)))))
    cases oi y
    exact qd ⟨aL,ai,aj,ak,eV,0,0,iU,iV,iW,cs1024,mL,u,iX.f4.f5.f4.f4.f4.s,(R.le.trans bd),(iO.mono bd),mM,hrow1026,hm1027⟩
   refine wl_appendR (t:=tInt) wn u underlying71 tf3 u u u u (RowAt.nil tInt _) u (D.mono R.le) G eU fun iY iZ ja cs1041 se hrow1043 hm1044 jb=>(wl_nil (qe_held (listed':=#[true,true,true,true,false,false,true,true,true,true,false,true,false]) u ⟨⟨jb.hasK R.le,jb.hasObj m4⟩,(fun _=>trivial),by decide⟩ (wg_one (i:=4) (by kernel_rfl) u (b0 tGEntry underlying44 tf116 jb fun eW sf mN bN mO bO=>(wl_nil (qe_held (listed':=#[true,true,true,true,true,false,true,true,true,true,false,true,false]) u ⟨⟨bO.hasK (R.le.trans bN),bO.hasObj m5⟩,(fun _=>trivial),by decide⟩ (wg_val (i:=5) (listed':=#[true,true,true,true,true,true,true,true,true,true,false,true,false]) (fun _=>True) u (by kernel_rfl) (pk_then (pk_then pk_body)) (by kernel_rfl) u (by kernel_rfl) (by kernel_rfl) u (.inl fun _ _=>trivial) ⟨⟨bO.hasK (R.le.trans bN),bO.hasObj m5⟩,(fun _=>trivial),by decide⟩ wn u (fun _ _=>(rv_build (cs:=#[V3 ai aj ak,V3 eW 0 0]) sp46 tf46 u (by kernel_rfl))) ?_)))))))
   refine wg_val (i:=10) (listed':=L_ 13 11) (fun _=>True) u (by kernel_rfl) (pk_then (pk_then pk_body)) (by kernel_rfl) u (by kernel_rfl) (by kernel_rfl) u (.inl fun _ _=>trivial) ⟨⟨bO.hasK (R.le.trans bN),bO.hasObj m5⟩,(fun _=>trivial),by decide⟩ wn u (fun _ _=>(rv_build (cs:=#[V3 ai aj ak,V3 eW 0 0,V3 iY iZ ja]) sp73 tf73 u (by kernel_rfl))) (wg_one (i:=12) (by kernel_rfl) u (lw [V3 ai aj ak,V3 eW 0 0,V3 iY iZ ja] tf73 bO.f3 fun sg jc=>(wl_nil (qe_held (listed':=L_ 13 12) u ⟨⟨jc.hasK (R.le.trans bN),jc.hasObj m5⟩,(fun _=>trivial),by decide⟩ (wg_done (by kernel_rfl) ?_)))))
   cases oi y
   exact qd ⟨aL,ai,aj,ak,eW,0,0,iY,iZ,ja,cs1041,mN,u,jc.f4.f5.f3.f4.f4.s,(R.le.trans bN),(iO.mono bN),mO,(RowAt.mono bN hrow1043),hm1044⟩
  ·refine b0 tGEntry underlying44 tf116 ct fun be sh si V kO dC=>(wl_nil (qe_held (listed':=#[true,true,true,false,true,false,false,true,true,false,false,true,false]) u ⟨⟨dC.hasK V,dC.hasObj m3⟩,(fun _=>trivial),by decide⟩ (wg_many (l:=[3,6]) (by kernel_rfl) u ⟨⟨_,u,?_⟩,⟨_,u,?_⟩,trivial⟩)))
   ·refine lk co72 (ok_impl_cloneDocs F dC.enter0 (aa.mono V) ab) ?_
    rintro sj sl ⟨eX,eY,eZ,mP,rfl,aA,mQ⟩
    have dD:=(dC.c0 aA).t5
    refine wl_nil (qe_held (listed':=#[true,true,true,true,true,false,false,true,true,false,false,true,false]) u ⟨⟨dD.hasK (V.trans aA.le),dD.hasObj m4⟩,(fun _=>trivial),by decide⟩ (wg_val (i:=5) (listed':=#[true,true,true,true,true,true,false,true,true,false,false,true,false]) (fun _=>True) u (by kernel_rfl) (pk_then (pk_then pk_body)) (by kernel_rfl) u (by kernel_rfl) (by kernel_rfl) u (.inl fun _ _=>trivial) ⟨⟨dD.hasK (V.trans aA.le),dD.hasObj m4⟩,(fun _=>trivial),by decide⟩ wn u (fun _ _=>(rv_build (cs:=#[V3 eX eY eZ,V3 be 0 0]) sp46 tf46 u (by kernel_rfl))) (wg_one (i:=6) (by kernel_rfl) u (wl_buildSlice0R tInt wn u underlying71 tf3 dD fun sm sn je=>(wl_nil (qe_held (listed':=#[true,true,true,true,true,true,true,true,true,false,false,true,false]) u ⟨⟨je.hasK (V.trans aA.le),je.hasObj m5⟩,(fun _=>trivial),by decide⟩ (wg_one (i:=9) (by kernel_rfl) u (wl_appendR (t:=tInt) wn u underlying71 tf3 u u u u (RowAt.nil tInt _) u (D.mono (V.trans aA.le)) G je fun jj jl jm cs1082 so hrow1084 hm1085 dE=>?_))))))))
    refine wl_nil (qe_held (listed':=#[true,true,true,true,true,true,true,true,true,true,false,true,false]) u ⟨⟨dE.hasK (V.trans aA.le),dE.hasObj m5⟩,(fun _=>trivial),by decide⟩ (wg_val (i:=10) (listed':=L_ 13 11) (fun _=>True) u (by kernel_rfl) (pk_then (pk_then pk_body)) (by kernel_rfl) u (by kernel_rfl) (by kernel_rfl) u (.inl fun _ _=>trivial) ⟨⟨dE.hasK (V.trans aA.le),dE.hasObj m5⟩,(fun _=>trivial),by decide⟩ wn u (fun _ _=>(rv_build (cs:=#[V3 eX eY eZ,V3 be 0 0,V3 jj jl jm]) sp73 tf73 u (by kernel_rfl))) (wg_one (i:=12) (by kernel_rfl) u (lw [V3 eX eY eZ,V3 be 0 0,V3 jj jl jm] tf73 dE.f3 fun sq jo=>(wl_nil (qe_held (listed':=L_ 13 12) u ⟨⟨jo.hasK (V.trans aA.le),jo.hasObj m5⟩,(fun _=>trivial),by decide⟩ (wg_done (by kernel_rfl) ?_)))))))
    cases oi y
    exact qd ⟨aL,eX,eY,eZ,be,0,0,jj,jl,jm,cs1082,mP,u,jo.f4.f5.f5.f4.f4.s,(V.trans aA.le),mQ,(kO.mono aA.le),hrow1084,hm1085⟩
   refine wl_buildSlice0R tInt wn u underlying71 tf3 dC fun ss st fb=>(wl_nil (qe_held (listed':=#[true,true,true,false,true,false,true,true,true,false,false,true,false]) u ⟨⟨fb.hasK V,fb.hasObj m4⟩,(fun _=>trivial),by decide⟩ (wg_one (i:=3) (by kernel_rfl) u (lk co72 (ok_impl_cloneDocs F fb.enter0 (aa.mono V) ab) ?_))))
   rintro su sw ⟨fc,fd,fe,mR,rfl,aN,mS⟩
   have dF:=(fb.c0 aN).t6
   refine wl_nil (qe_held (listed':=#[true,true,true,true,true,false,true,true,true,false,false,true,false]) u ⟨⟨dF.hasK (V.trans aN.le),dF.hasObj m5⟩,(fun _=>trivial),by decide⟩ (wg_val (i:=5) (listed':=#[true,true,true,true,true,true,true,true,true,false,false,true,false]) (fun _=>True) u (by kernel_rfl) (pk_then (pk_then pk_body)) (by kernel_rfl) u (by kernel_rfl) (by kernel_rfl) u (.inl fun _ _=>trivial) ⟨⟨dF.hasK (V.trans aN.le),dF.hasObj m5⟩,(fun _=>trivial),by decide⟩ wn u (fun _ _=>(rv_build (cs:=#[V3 fc fd fe,V3 be 0 0]) sp46 tf46 u (by kernel_rfl))) (wg_one (i:=9) (by kernel_rfl) u (wl_appendR (t:=tInt) wn u underlying71 tf3 u u u u (RowAt.nil tInt _) u (D.mono (V.trans aN.le)) G dF.f1 fun jp jq jr cs1112 sx hrow1114 hm1115 dG=>(wl_nil (qe_held (listed':=#[true,true,true,true,true,true,true,true,true,true,false,true,false]) u ⟨⟨dG.hasK (V.trans aN.le),dG.hasObj m5⟩,(fun _=>trivial),by decide⟩ ?_))))))
   refine wg_val (i:=10) (listed':=L_ 13 11) (fun _=>True) u (by kernel_rfl) (pk_then (pk_then pk_body)) (by kernel_rfl) u (by kernel_rfl) (by kernel_rfl) u (.inl fun _ _=>trivial) ⟨⟨dG.hasK (V.trans aN.le),dG.hasObj m5⟩,(fun _=>trivial),by decide⟩ wn u (fun _ _=>(rv_build (cs:=#[V3 fc fd fe,V3 be 0 0,V3 jp jq jr]) sp73 tf73 u (by kernel_rfl))) (wg_one (i:=12) (by kernel_rfl) u (lw [V3 fc fd fe,V3 be 0 0,V3 jp jq jr] tf73 dG.f3 fun sy jt=>(wl_nil (qe_held (listed':=L_ 13 12) u ⟨⟨jt.hasK (V.trans aN.le),jt.hasObj m5⟩,(fun _=>trivial),by decide⟩ (wg_done (by kernel_rfl) ?_)))))
   cases oi y
   exact qd ⟨aL,fc,fd,fe,be,0,0,jp,jq,jr,cs1112,mR,u,jt.f4.f5.f5.f4.f4.s,(V.trans aN.le),mS,(kO.mono aN.le),hrow1114,hm1115⟩
  refine wl_buildSlice0R tInt wn u underlying71 tf3 ct fun sA sB dH=>(wl_nil (qe_held (listed':=#[true,true,true,false,false,false,true,true,true,false,false,true,false]) u ⟨⟨dH.hasK kr,dH.hasObj m3⟩,(fun _=>trivial),by decide⟩ (wg_many (l:=[3,4]) (by kernel_rfl) u ⟨⟨_,u,?_⟩,⟨_,u,?_⟩,trivial⟩)))
  ·refine lk co72 (ok_impl_cloneDocs F dH.enter0 aa ab) ?_
   rintro sC sD ⟨bf,bg,bh,sE,rfl,af,kP⟩
   have fg:=(dH.c0 af).t5
   refine wl_nil (qe_held (listed':=#[true,true,true,true,false,false,true,true,true,false,false,true,false]) u ⟨⟨fg.hasK af.le,fg.hasObj m4⟩,(fun _=>trivial),by decide⟩ (wg_many (l:=[4,9]) (by kernel_rfl) u ⟨⟨_,u,?_⟩,⟨_,u,?_⟩,trivial⟩))
   ·refine b0 tGEntry underlying44 tf116 fg fun fh sF mT bi mU dI=>(wl_nil (qe_held (listed':=#[true,true,true,true,true,false,true,true,true,false,false,true,false]) u ⟨⟨dI.hasK (af.le.trans bi),dI.hasObj m5⟩,(fun _=>trivial),by decide⟩ (wg_val (i:=5) (listed':=#[true,true,true,true,true,true,true,true,true,false,false,true,false]) (fun _=>True) u (by kernel_rfl) (pk_then (pk_then pk_body)) (by kernel_rfl) u (by kernel_rfl) (by kernel_rfl) u (.inl fun _ _=>trivial) ⟨⟨dI.hasK (af.le.trans bi),dI.hasObj m5⟩,(fun _=>trivial),by decide⟩ wn u (fun _ _=>(rv_build (cs:=#[V3 bf bg bh,V3 fh 0 0]) sp46 tf46 u (by kernel_rfl))) (wg_one (i:=9) (by kernel_rfl) u (wl_appendR (t:=tInt) wn u underlying71 tf3 u u u u (RowAt.nil tInt _) u (D.mono (af.le.trans bi)) G dI.f2 fun jw jx jy cs1148 sG hrow1150 hm1151 dJ=>(wl_nil (qe_held (listed':=#[true,true,true,true,true,true,true,true,true,true,false,true,false]) u ⟨⟨dJ.hasK (af.le.trans bi),dJ.hasObj m5⟩,(fun _=>trivial),by decide⟩ ?_)))))))
    refine wg_val (i:=10) (listed':=L_ 13 11) (fun _=>True) u (by kernel_rfl) (pk_then (pk_then pk_body)) (by kernel_rfl) u (by kernel_rfl) (by kernel_rfl) u (.inl fun _ _=>trivial) ⟨⟨dJ.hasK (af.le.trans bi),dJ.hasObj m5⟩,(fun _=>trivial),by decide⟩ wn u (fun _ _=>(rv_build (cs:=#[V3 bf bg bh,V3 fh 0 0,V3 jw jx jy]) sp73 tf73 u (by kernel_rfl))) (wg_one (i:=12) (by kernel_rfl) u (lw [V3 bf bg bh,V3 fh 0 0,V3 jw jx jy] tf73 dJ.f3 fun sH jz=>(wl_nil (qe_held (listed':=L_ 13 12) u ⟨⟨jz.hasK (af.le.trans bi),jz.hasObj m5⟩,(fun _=>trivial),by decide⟩ (wg_done (by kernel_rfl) ?_)))))
    cases oi y
    exact qd ⟨aL,bf,bg,bh,fh,0,0,jw,jx,jy,cs1148,mT,u,jz.f4.f5.f4.f4.f4.s,(af.le.trans bi),(kP.mono bi),mU,hrow1150,hm1151⟩
   have mV:=fg.f1
   refine wl_appendR (t:=tInt) wn u underlying71 tf3 u u u u (RowAt.nil tInt _) u (D.mono af.le) G mV fun jA jB jC cs1166 sI hrow1168 hm1169 jD=>(wl_nil (qe_held (listed':=#[true,true,true,true,false,false,true,true,true,true,false,true,false]) u ⟨⟨jD.hasK af.le,jD.hasObj m4⟩,(fun _=>trivial),by decide⟩ (wg_one (i:=4) (by kernel_rfl) u (b0 tGEntry underlying44 tf116 jD fun fi sJ mW bP mX bQ=>(wl_nil (qe_held (listed':=#[true,true,true,true,true,false,true,true,true,true,false,true,false]) u ⟨⟨bQ.hasK (af.le.trans bP),bQ.hasObj m5⟩,(fun _=>trivial),by decide⟩ (wg_val (i:=5) (listed':=#[true,true,true,true,true,true,true,true,true,true,false,true,false]) (fun _=>True) u (by kernel_rfl) (pk_then (pk_then pk_body)) (by kernel_rfl) u (by kernel_rfl) (by kernel_rfl) u (.inl fun _ _=>trivial) ⟨⟨bQ.hasK (af.le.trans bP),bQ.hasObj m5⟩,(fun _=>trivial),by decide⟩ wn u (fun _ _=>(rv_build (cs:=#[V3 bf bg bh,V3 fi 0 0]) sp46 tf46 u (by kernel_rfl))) ?_)))))))
   refine wg_val (i:=10) (listed':=L_ 13 11) (fun _=>True) u (by kernel_rfl) (pk_then (pk_then pk_body)) (by kernel_rfl) u (by kernel_rfl) (by kernel_rfl) u (.inl fun _ _=>trivial) ⟨⟨bQ.hasK (af.le.trans bP),bQ.hasObj m5⟩,(fun _=>trivial),by decide⟩ wn u (fun _ _=>(rv_build (cs:=#[V3 bf bg bh,V3 fi 0 0,V3 jA jB jC]) sp73 tf73 u (by kernel_rfl))) (wg_one (i:=12) (by kernel_rfl) u (lw [V3 bf bg bh,V3 fi 0 0,V3 jA jB jC] tf73 bQ.f3 fun sK jE=>(wl_nil (qe_held (listed':=L_ 13 12) u ⟨⟨jE.hasK (af.le.trans bP),jE.hasObj m5⟩,(fun _=>trivial),by decide⟩ (wg_done (by kernel_rfl) ?_)))))
   cases oi y
   exact qd ⟨aL,bf,bg,bh,fi,0,0,jA,jB,jC,cs1166,mW,u,jE.f4.f5.f3.f4.f4.s,(af.le.trans bP),(kP.mono bP),mX,(RowAt.mono bP hrow1168),hm1169⟩
  refine b0 tGEntry underlying44 tf116 dH fun fj sL sM aO mY fk=>(wl_nil (qe_held (listed':=#[true,true,true,false,true,false,true,true,true,false,false,true,false]) u ⟨⟨fk.hasK aO,fk.hasObj m4⟩,(fun _=>trivial),by decide⟩ (wg_one (i:=3) (by kernel_rfl) u (lk co72 (ok_impl_cloneDocs F fk.enter0 (aa.mono aO) ab) ?_))))
  rintro sN sO ⟨fm,fn,fo,mZ,rfl,aP,na⟩
  have dK:=(fk.c0 aP).t6
  refine wl_nil (qe_held (listed':=#[true,true,true,true,true,false,true,true,true,false,false,true,false]) u ⟨⟨dK.hasK (aO.trans aP.le),dK.hasObj m5⟩,(fun _=>trivial),by decide⟩ (wg_val (i:=5) (listed':=#[true,true,true,true,true,true,true,true,true,false,false,true,false]) (fun _=>True) u (by kernel_rfl) (pk_then (pk_then pk_body)) (by kernel_rfl) u (by kernel_rfl) (by kernel_rfl) u (.inl fun _ _=>trivial) ⟨⟨dK.hasK (aO.trans aP.le),dK.hasObj m5⟩,(fun _=>trivial),by decide⟩ wn u (fun _ _=>(rv_build (cs:=#[V3 fm fn fo,V3 fj 0 0]) sp46 tf46 u (by kernel_rfl))) (wg_one (i:=9) (by kernel_rfl) u (wl_appendR (t:=tInt) wn u underlying71 tf3 u u u u (RowAt.nil tInt _) u (D.mono (aO.trans aP.le)) G dK.f2 fun jF jG jH cs1205 sP hrow1207 hm1208 dL=>(wl_nil (qe_held (listed':=#[true,true,true,true,true,true,true,true,true,true,false,true,false]) u ⟨⟨dL.hasK (aO.trans aP.le),dL.hasObj m5⟩,(fun _=>trivial),by decide⟩ ?_))))))
  refine wg_val (i:=10) (listed':=L_ 13 11) (fun _=>True) u (by kernel_rfl) (pk_then (pk_then pk_body)) (by kernel_rfl) u (by kernel_rfl) (by kernel_rfl) u (.inl fun _ _=>trivial) ⟨⟨dL.hasK (aO.trans aP.le),dL.hasObj m5⟩,(fun _=>trivial),by decide⟩ wn u (fun _ _=>(rv_build (cs:=#[V3 fm fn fo,V3 fj 0 0,V3 jF jG jH]) sp73 tf73 u (by kernel_rfl))) (wg_one (i:=12) (by kernel_rfl) u (lw [V3 fm fn fo,V3 fj 0 0,V3 jF jG jH] tf73 dL.f3 fun sQ jI=>(wl_nil (qe_held (listed':=L_ 13 12) u ⟨⟨jI.hasK (aO.trans aP.le),jI.hasObj m5⟩,(fun _=>trivial),by decide⟩ (wg_done (by kernel_rfl) ?_)))))
  cases oi y
  exact qd ⟨aL,fm,fn,fo,fj,0,0,jF,jG,jH,cs1205,mZ,u,jI.f4.f5.f5.f4.f4.s,(aO.trans aP.le),na,(mY.mono aP.le),hrow1207,hm1208⟩
 rintro _ sR ⟨ao,dS,dT,dU,cD,cE,cF,dV,cG,dW,cs40,aE,rfl,kQ,jJ,nc,nd,hrow41,hm42⟩
 refine qs (sr (fa ff73_0 u (fl ff46_1 u tf44 m3 kQ u (lv (rv_len underlying44 u (fD.mono jJ)) (lv (r_m u) (nq ?_))))))
 obtain⟨fp,ne,nf⟩:=ob lf
 refine wc_cutg (fun E' w'=>∃cu cv cw bR bS bT cx bU cy cs1237 bV,E'=[(2,pt an),(3,pt ao)]∧SH w K [] w' bV [obj ao [V3 cu cv cw,V3 bR bS bT,V3 cx bU cy] 73,rowI (V3 cx bU cy) cs1237 3 1,tail (V3 bR bS bT) 116 3,obj an [V3 none 0 0,V3 none 0 0,V3 none 0 0] 73]∧KLe aE bV∧SliceAt tGDoc bV cu cv cw fp.Seg.Docs∧SliceAt tGEntry bV bR bS bT fp.Seg.Entries∧RowAt true tInt bV cs1237 fp.Dead∧bU=fp.Dead.length) ?_ ?_
 ·refine wc_block ?_
  obtain⟨sS,ng,nh⟩:=ob ne
  have ni:=kQ.sb (sk (sk (sk (sd (sk sz)))))
  refine qF (fun (fq:Nat) (cz:GLive) E' w'=>∃aQ aR aS aB aC aD aq am ar cs1260 bj,E'=[(2,pt an),(3,pt ao),(22,V3 B c d),(23,V6 (q0.Seg.Entries.length:Int)),(24,V6 ((fq:Nat):Int))]∧SH w K [] w' bj [obj ao [V3 aQ aR aS,V3 aB aC aD,V3 aq am ar] 73,rowI (V3 aq am ar) cs1260 3 1,tail (V3 aB aC aD) 116 3,obj an [V3 none 0 0,V3 none 0 0,V3 none 0 0] 73]∧KLe aE bj∧SliceAt tGDoc bj aQ aR aS cz.Seg.Docs∧SliceAt tGEntry bj aB aC aD cz.Seg.Entries∧RowAt true tInt bj cs1260 cz.Dead∧am=cz.Dead.length) ng ⟨dS,dT,dU,cD,cE,cF,dV,cG,dW,cs40,aE,u,ni,kr,nc,nd,hrow41,hm42⟩ ?_ ?_
  ·rintro fq cz _ nj sT hi1265 nk ⟨aQ,aR,aS,aB,aC,aD,aq,am,ar,cs1260,bj,rfl,fr,fs,jK,jL,hrow1261,hm1262⟩
   refine sr (lv (rv_lss u u) (ns (wc_cond_t u (decide_eq_true (by omega)) (wc_skip (qe_seq (wc_seq (wc_block (sr ?_))))))))
   obtain⟨Y,nl,nm⟩:=ob nk
   refine li underlying44 tf116 (fD.mono (jJ.trans fs)) nl fun nn no sU np nt=>?_
   obtain⟨dM,dN,dO,rfl,nu,nv,jM⟩:=np
   have nw:AtK _ nn no [sv Y.Field,sv Y.Term,V3 dM dN dO]:=nt
   refine lv (rv_loadS tf116 u fr nw u) (al tf116 fr fun dP sV nx=>?_)
   have ny:SH _ _ _ _ _ [obj dP [sv [],sv [],V3 none 0 0] 116,_,_,_,_]:=nx
   refine lw [sv Y.Field,sv Y.Term,V3 dM dN dO] tf116 ny fun sW nz=>(nr (b0 tGPost underlying61 tf134 nz fun nA sX jN bW nB kR=>(av u (nsr (fl ff116_2 u tf61 m1 kR u (lv (rv_len underlying61 u (jM.mono bW)) (lv (r_m u) (nq ?_))))))))
   obtain⟨kS,nC,nD⟩:=ob nm
   refine wc_cutg (fun E' w'=>∃bk bl bm ft,E'=[(2,pt an),(3,pt ao),(5,pt dP),(6,V3 bk bl bm),(22,V3 B c d),(23,V6 (q0.Seg.Entries.length:Int)),(24,V6 ((fq:Nat):Int))]∧SH w K [] w' ft [obj ao [V3 aQ aR aS,V3 aB aC aD,V3 aq am ar] 73,rowI (V3 aq am ar) cs1260 3 1,tail (V3 aB aC aD) 116 3,obj an [V3 none 0 0,V3 none 0 0,V3 none 0 0] 73,obj dP [sv Y.Field,sv Y.Term,V3 dM dN dO] 116,tail (V3 bk bl bm) 134 2]∧KLe jN ft∧SliceAt tGPost ft bk bl bm kS) ?_ ?_
   ·refine wc_block ?_
    obtain⟨sY,nE,nF⟩:=ob nC
    refine qF (fun (kT:Nat) (jO:(List GPost)) E' w'=>∃cA cB cC bX,E'=[(2,pt an),(3,pt ao),(5,pt dP),(6,V3 cA cB cC),(22,V3 B c d),(23,V6 (q0.Seg.Entries.length:Int)),(24,V6 ((fq:Nat):Int)),(30,V3 dM dN dO),(31,V6 (Y.Posts.length:Int)),(32,V6 ((kT:Nat):Int))]∧SH w K [] w' bX [obj ao [V3 aQ aR aS,V3 aB aC aD,V3 aq am ar] 73,rowI (V3 aq am ar) cs1260 3 1,tail (V3 aB aC aD) 116 3,obj an [V3 none 0 0,V3 none 0 0,V3 none 0 0] 73,obj dP [sv Y.Field,sv Y.Term,V3 dM dN dO] 116,tail (V3 cA cB cC) 134 2]∧KLe jN bX∧SliceAt tGPost bX cA cB cC jO) nE ⟨nA,0,0,jN,u,kR.f1.f5.f5.f5.f5,kr,nB⟩ ?_ ?_
    ·rintro kT jO _ nG sZ hi1325 nH ⟨cA,cB,cC,bX,rfl,fu,fv,jP⟩
     refine sr (lv (rv_lss u u) (ns (wc_cond_t u (decide_eq_true (by omega)) (wc_skip (qe_seq (wc_seq (wc_block (sr ?_))))))))
     obtain⟨bY,nI,nJ⟩:=ob nH
     refine li underlying61 tf134 (jM.mono (bW.trans fv)) nI fun nK nL ta nM nN=>?_
     obtain⟨jQ,jR,jS,rfl,nO,nP⟩:=nM
     have nQ:AtK _ nK nL [V6 bY.Doc,V3 jQ jR jS]:=nN
     refine lv (rv_loadS tf134 u fu nQ u) (al tf134 fu fun kU tb nR=>?_)
     have nS:SH _ _ _ _ _ [obj kU [V6 0,V3 none 0 0] 134,_,_,_,_,_,_]:=nR
     refine lw [V6 bY.Doc,V3 jQ jR jS] tf134 nS fun tc nT=>(nq ?_)
     have jT:=nT.drew
     refine j_0 (fun w'=>Holds bX w'∧HasObj kU [V6 bY.Doc,V3 jQ jR jS] w') 11 [] mixed ⟨jT.hasK kr,jT.hasObj m0⟩ (jv 0 u (rv_move u) (jv 1 u (rv_fieldAddr ff134_0 u) (jh 2 u (fun _ h=>rh_loadm1 tf3 u u h.2) (jv 4 u (rv_fieldAddr ff134_1 u) (jh 5 u (fun _ h=>rh_loadm1 tf71 u u h.2) (j1 3 u (b0 tInt underlying71 tf3 jT fun td te tg bZ nU jU=>(j_o ⟨jU.hasK bZ,jU.hasObj m1⟩ (j1 6 u ?_)))))))))
     obtain⟨nV,nW,nX⟩:=ob nJ
     refine lp underlying71 tf3 nU (nP.mono bZ) nW jU fun fw fx fy th ti dQ nY jV=>(j_o ⟨jV.hasK (bZ.trans dQ),jV.hasObj m1⟩ (jv 7 u (rv_build (cs:=#[V6 bY.Doc,V3 fw fx fy]) sp134 tf134 u (by kernel_rfl)) (j1 8 u (lb tGPost (.agg #[V6 bY.Doc,V3 fw fx fy]) [V6 bY.Doc,V3 fw fx fy] (GPost.mk bY.Doc nV) underlying61 tf134 ⟨fw,fx,fy,u,nO,nY⟩ jV fun tj tk tl fz nZ jW=>(j_o ⟨jW.hasK ((bZ.trans dQ).trans fz),jW.hasObj m2⟩ (j1 9 u ?_))))))
     obtain⟨tm,oa,oc⟩:=ob nX
     refine lp underlying61 tf134 (jP.mono ((bZ.trans dQ).trans fz)) nZ oa jW.f8 fun od oe og tn oh kV oj jX=>(j_o ⟨jX.hasK (((bZ.trans dQ).trans fz).trans kV),jX.hasObj m3⟩ (jv 10 u (rv_assign u) (jd (qe_block (qg (lv (rv_add_to u u (w64_succ hi1325 (SliceAt.max (jM.mono bW)))) (mv u (wl_nil ?_))))))))
     cases oi oc
     exact qd ⟨od,oe,og,oh,u,jX.f8.f8.f8.f8.f8.s,((((fv.trans bZ).trans dQ).trans fz).trans kV),oj⟩
    rintro jO _ nG ok ⟨cA,cB,cC,bX,rfl,fu,fv,jP⟩
    subst ok
    refine sr (lv (rv_lss u u) (ns (wc_cond_f u (decide_eq_false (by omega)) (wc_exit (qe_then_exit (qe_then_exit (qe_block_eq ?_)))))))
    cases oi nF
    exact qd ⟨cA,cB,cC,bX,u,fu,fv,jP⟩
   rintro _ tp ⟨bk,bl,bm,ft,rfl,fA,fB,ol⟩
   refine qe_seq (wc_region (fa ff73_0 u (fl ff46_1 u tf44 m0 fA u (fl ff116_0 u tf9 m4 fA u (fl ff116_1 u tf9 m4 fA u (mv u (lv (rv_build (cs:=#[sv Y.Field,sv Y.Term,V3 bk bl bm]) sp116 tf116 u (by kernel_rfl)) (lb tGEntry (.agg #[sv Y.Field,sv Y.Term,V3 bk bl bm]) [sv Y.Field,sv Y.Term,V3 bk bl bm] (GEntry.mk Y.Field Y.Term kS) underlying44 tf116 ⟨bk,bl,bm,u,nu,nv,ol⟩ fA fun tq tr ts fC om on=>?_))))))))
   obtain⟨tt,oo,op⟩:=ob nD
   refine lp underlying44 tf116 (jL.mono ((bW.trans fB).trans fC)) om oo on.f3 fun jY jZ ka tu oq kb os ot=>(fa ff73_0 u (fa ff46_1 u (ls [V3 aQ aR aS,V3 jY jZ ka,V3 aq am ar] (V3 jY jZ ka) tf44 ot.f2 fun tv ou=>(nb (qg (lv (rv_add_to u u (w64_succ hi1265 (SliceAt.max (fD.mono jJ)))) (mv u (wl_nil ?_))))))))
   cases oi op
   exact qd ⟨aQ,aR,aS,jY,jZ,ka,aq,am,ar,cs1260,oq,u,ou.f4.f2.f4.f3.s,((((fs.trans bW).trans fB).trans fC).trans kb),(SliceAt.mono (((bW.trans fB).trans fC).trans kb) jK),os,(RowAt.mono (((bW.trans fB).trans fC).trans kb) hrow1261),hm1262⟩
  rintro cz _ nj ov ⟨aQ,aR,aS,aB,aC,aD,aq,am,ar,cs1260,bj,rfl,fr,fs,jK,jL,hrow1261,hm1262⟩
  subst ov
  refine sr (lv (rv_lss u u) (ns (wc_cond_f u (decide_eq_false (by omega)) (wc_exit (qe_then_exit (qe_then_exit (qe_block_eq ?_)))))))
  cases oi nh
  exact qd ⟨aQ,aR,aS,aB,aC,aD,aq,am,ar,cs1260,bj,u,fr,fs,jK,jL,hrow1261,hm1262⟩
 rintro _ tw ⟨cu,cv,cw,bR,bS,bT,cx,bU,cy,cs1237,bV,rfl,kW,tx,ow,ox,hrow1238,hm1239⟩
 refine qr (lv (rv_loadmS (ds:=[V3 cu cv cw,V3 bR bS bT,V3 cx bU cy]) tf73 u m0 kW u u) (lw [V3 cu cv cw,V3 bR bS bT,V3 cx bU cy] tf73 kW.f3 fun ty kX=>(nq (wc_ret ?_))))
 cases oi nf
 exact ez results172 tf73 kX m0 ⟨cu,cv,cw,bR,bS,bT,cx,bU,cy,cs1237,bV,u,kX.s,ow,ox,hrow1238,hm1239⟩

theorem ok_impl_cloneIndex {q0:GIndex}{r:GIndex}(hS:SH w K [] w K [])(bg:SliceAt tStr K A a b q0.Conf.Stops)(bh:SliceAt tGSyn K B c d q0.Conf.Syns)(aA:SliceAt tGLive K C f i q0.Segs)(hm:M.impl_cloneIndex F q0=some r):
  Calls prog 107 #[.agg #[V3 A a b,V3 B c d,V3 C f i]] w fun e w'=>∃a_1 n_2 c_3 a_5 n_6 c_7 a_9 n_10 c_11 K',e= .returned (.agg #[V3 a_1 n_2 c_3,V3 a_5 n_6 c_7,V3 a_9 n_10 c_11])∧SH w K [] w' K' [tail (V3 a_9 n_10 c_11) 73 3]∧SliceAt tStr K' a_1 n_2 c_3 r.Conf.Stops∧SliceAt tGSyn K' a_5 n_6 c_7 r.Conf.Syns∧SliceAt tGLive K' a_9 n_10 c_11 r.Segs:=by
 rw [M.impl_cloneIndex] at hm
 refine ci func107 u ntmps107 (sr (bx u hS fun bi ck bj=>?_))
 have bk:SH _ _ _ _ _ [obj bi [V3 A a b,V3 B c d,V3 C f i] 36]:=bj
 refine al tf36 bk fun ac cl bl=>?_
 have aB:SH _ _ _ _ _ [obj ac [V3 none 0 0,V3 none 0 0,V3 none 0 0] 36,_]:=bl
 refine nr (fa ff36_0 u (lv (rv_loadmS (ds:=[V3 A a b,V3 B c d]) tf33 u m1 aB u u) ?_))
 obtain⟨cm,bm,bn⟩:=ob hm
 refine lk co171 (ok_impl_cloneConf F aB.enter0 bg bh bm) ?_
 rintro cn cp ⟨aC,aD,aE,aF,aG,aH,cq,rfl,ah,bo,bp⟩
 have bq:=(aB.c0 ah).t4
 refine b0 tGLive underlying34 tf73 bq fun aI cr aJ ad br bs=>(lv (rv_build (cs:=#[V3 aC aD aE,V3 aF aG aH,V3 aI 0 0]) sp36 tf36 u (by kernel_rfl)) (al tf36 bs fun U ct bu=>?_))
 have bv:SH _ _ _ _ _ [obj U [V3 none 0 0,V3 none 0 0,V3 none 0 0] 36,_,_,_,_,_]:=bu
 refine lw [V3 aC aD aE,V3 aF aG aH,V3 aI 0 0] tf36 bv fun cu bb=>(nsr (fl ff36_1 u tf34 m5 bb u (lv (rv_len underlying34 u (aA.mono (ah.le.trans ad))) (lv (r_m u) (nq ?_)))))
 obtain⟨aK,bz,bA⟩:=ob bn
 refine wc_cutg (fun E' w'=>∃V W X Y aa ab G H I J,E'=[(2,pt ac),(3,pt U)]∧SH w K [] w' J [obj ac [V3 none 0 0,V3 none 0 0,V3 none 0 0] 36,obj U [V3 V W X,V3 Y aa ab,V3 G H I] 36,tail (V3 G H I) 73 3]∧KLe aJ J∧SliceAt tStr J V W X aK.Conf.Stops∧SliceAt tGSyn J Y aa ab aK.Conf.Syns∧SliceAt tGLive J G H I aK.Segs) ?_ ?_
 ·refine wc_block ?_
  obtain⟨cv,bB,bC⟩:=ob bz
  have bD:=bb.f1.f1.f4.sb (sk (sk (sk (sd (sd (sd sz))))))
  refine qF (fun (bc:Nat) (ae:GIndex) E' w'=>∃o q s x y D O R S l,E'=[(2,pt ac),(3,pt U),(12,V3 C f i),(13,V6 (q0.Segs.length:Int)),(14,V6 ((bc:Nat):Int))]∧SH w K [] w' l [obj ac [V3 none 0 0,V3 none 0 0,V3 none 0 0] 36,obj U [V3 o q s,V3 x y D,V3 O R S] 36,tail (V3 O R S) 73 3]∧KLe aJ l∧SliceAt tStr l o q s ae.Conf.Stops∧SliceAt tGSyn l x y D ae.Conf.Syns∧SliceAt tGLive l O R S ae.Segs) bB ⟨aC,aD,aE,aF,aG,aH,aI,0,0,aJ,u,bD,kr,(bo.mono ad),(bp.mono ad),br⟩ ?_ ?_
  ·rintro bc ae _ bE cw hi94 bF ⟨o,q,s,x,y,D,O,R,S,l,rfl,ai,aj,aL,aM,aN⟩
   refine sr (lv (rv_lss u u) (ns (wc_cond_t u (decide_eq_true (by omega)) (wc_skip (qe_seq (wc_seq (wc_block (sr ?_))))))))
   obtain⟨cx,bG,bH⟩:=ob bF
   refine li underlying34 tf73 (aA.mono ((ah.le.trans ad).trans aj)) bG fun bI bJ cy bK bL=>?_
   obtain⟨ak,am,an,ao,ap,aq,ar,au,aw,rfl,bM,bN,bO⟩:=bK
   have bP:AtK _ bI bJ [V3 ak am an,V3 ao ap aq,V3 ar au aw]:=bL
   refine lv (rv_loadS tf73 u ai bP u) (al tf73 ai fun bd cz bQ=>?_)
   have bR:SH _ _ _ _ _ [obj bd [V3 none 0 0,V3 none 0 0,V3 none 0 0] 73,_,_,_]:=bQ
   refine lw [V3 ak am an,V3 ao ap aq,V3 ar au aw] tf73 bR fun cA bS=>(nq ?_)
   have af:=bS.drew
   refine wh1 (fun w'=>Holds l w'∧HasObj bd [V3 ak am an,V3 ao ap aq,V3 ar au aw] w') (fun w'=>HasObj U [V3 o q s,V3 x y D,V3 O R S] w') 7 [(1,5),(1,6),(1,7),(5,6),(5,7),(6,7)] mixed ⟨af.hasK kr,af.hasObj m0⟩ (fun _=>af.hasObj (.tail _ (.tail _ (.head _)))) (gt (rv_fieldAddr ff36_1 u) (gf (fun _ h=>rh_loadm1 tf34 u u h) (gh (fun _ h=>rh_loadmS (ds:=[V3 ak am an,V3 ao ap aq,V3 ar au aw]) tf73 u u u h.2) (gn ?_))))
   obtain⟨bT,bU,bV⟩:=ob bH
   refine lk co172 (ok_impl_cloneLive F af.enter0 bM bN bO bU) ?_
   rintro cB cC ⟨aO,aP,aQ,aR,aS,aT,aU,aV,aW,cs143,cD,rfl,m,bW,bX,hrow144,hm145⟩
   have bY:=(af.c0 m).t5
   obtain⟨cE,k,bZ,ax⟩:=SH.freezeI bY hrow144 hm145
   refine wl_nil (qh ⟨ax.hasK (m.le.trans k),ax.hasObj m1⟩ (fun _=>ax.hasObj (.tail _ (.tail _ (.tail _ (.head _))))) (gn (lb tGLive (.agg #[V3 aO aP aQ,V3 aR aS aT,V3 aU aV aW]) [V3 aO aP aQ,V3 aR aS aT,V3 aU aV aW] bT underlying34 tf73 ⟨aO,aP,aQ,aR,aS,aT,aU,aV,aW,u,(bW.mono k),(bX.mono k),bZ⟩ ax fun cF cG cH T ca ay=>(wl_nil (qh ⟨ay.hasK ((m.le.trans k).trans T),ay.hasObj m2⟩ (fun _=>ay.hasObj (.tail _ (.tail _ (.tail _ (.tail _ (.head _)))))) (gn ?_))))))
   obtain⟨cI,cb,cc⟩:=ob bV
   refine lp underlying34 tf73 (aN.mono ((m.le.trans k).trans T)) ca cb ay.f5 fun aX aY aZ cJ cd ag ce az=>(wl_nil (qh ⟨az.hasK (((m.le.trans k).trans T).trans ag),az.hasObj m3⟩ (fun _=>az.hasObj (.tail _ (.tail _ (.tail _ (.tail _ (.tail _ (.head _))))))) (gt (rv_fieldAddr ff36_1 u) (gn (ls [V3 o q s,V3 x y D,V3 aX aY aZ] (V3 aX aY aZ) tf34 az.f5 fun cK ba=>(wl_nil (qh ⟨ba.hasK (((m.le.trans k).trans T).trans ag),ba.hasObj m4⟩ (fun h=>nomatch h) (gd' (qe_block (qg (lv (rv_add_to u u (w64_succ hi94 (SliceAt.max (aA.mono (ah.le.trans ad))))) ?_)))))))))))
   refine mv u (wl_nil ?_)
   cases oi cc
   exact qd ⟨o,q,s,x,y,D,aX,aY,aZ,cd,u,ba.f1.f1.f5.s,((((aj.trans m.le).trans k).trans T).trans ag),(SliceAt.mono (((m.le.trans k).trans T).trans ag) aL),(SliceAt.mono (((m.le.trans k).trans T).trans ag) aM),ce⟩
  rintro ae _ bE cf ⟨o,q,s,x,y,D,O,R,S,l,rfl,ai,aj,aL,aM,aN⟩
  subst cf
  refine sr (lv (rv_lss u u) (ns (wc_cond_f u (decide_eq_false (by omega)) (wc_exit (qe_then_exit (qe_then_exit (qe_block_eq ?_)))))))
  cases oi bC
  exact qd ⟨o,q,s,x,y,D,O,R,S,l,u,ai,aj,aL,aM,aN⟩
 rintro _ cL ⟨V,W,X,Y,aa,ab,G,H,I,J,rfl,be,cM,cg,ch,cj⟩
 refine qr (lv (rv_loadmS (ds:=[V3 V W X,V3 Y aa ab,V3 G H I]) tf36 u m1 be u u) (lw [V3 V W X,V3 Y aa ab,V3 G H I] tf36 be fun cN bf=>(nq (wc_ret ?_))))
 cases oi bA
 exact ez results107 tf36 bf m0 ⟨V,W,X,Y,aa,ab,G,H,I,J,u,bf.s,cg,ch,cj⟩

theorem own_impl_cloneIndex (F:Nat){w:World}{K:KMap}{a1:Option Addr}{n2 c3:Nat}{a5:Option Addr}{n6 c7:Nat}{a9:Option Addr}{n10 c11:Nat}{p0_x:GIndex}{r:GIndex}(hS:SH w K [] w K [])(hs4:SliceAt tStr K a1 n2 c3 p0_x.Conf.Stops)(hs8:SliceAt tGSyn K a5 n6 c7 p0_x.Conf.Syns)(hs12:SliceAt tGLive K a9 n10 c11 p0_x.Segs)(hm:M.impl_cloneIndex F p0_x=some r):
  Calls Tryz.prog 107 #[.agg #[.slice a1 n2 c3,.slice a5 n6 c7,.slice a9 n10 c11]] w fun e w'=>∃(a_1:Option Addr) (n_2 c_3:Nat) (a_5:Option Addr) (n_6 c_7:Nat) (a_9:Option Addr) (n_10 c_11:Nat) (K':KMap) (ps':List (GLive×Value)),e= .returned (.agg #[.slice a_1 n_2 c_3,.slice a_5 n_6 c_7,.slice a_9 n_10 c_11])∧SH w K [] w' K' [tail (.slice a_9 n_10 c_11) 73 3,pack (deadsOf 3 ps')]∧SliceAt tStr K' a_1 n_2 c_3 r.Conf.Stops∧SliceAt tGSyn K' a_5 n_6 c_7 r.Conf.Syns∧SliceAt tGLiveB K' a_9 n_10 c_11 ps'∧ps'.map Prod.fst=r.Segs:=by
 rw [M.impl_cloneIndex] at hm
 refine calls_in Tryz.func107 rfl Tryz.ntmps107 rfl ?_
 refine sr ?_
 refine wl_box wn rfl rfl hS ?_
 intro g13 w14 hS15
 have hS16:SH _ _ _ _ _ [obj g13 [.slice a1 n2 c3,.slice a5 n6 c7,.slice a9 n10 c11] 36]:=hS15
 refine wl_alloc wn rfl tf36 hS16 ?_
 intro g17 w18 hS19
 have hS20:SH _ _ _ _ _ [obj g17 [.slice none 0 0,.slice none 0 0,.slice none 0 0] 36,_]:=hS19
 refine nr ?_
 refine wl_val wn rfl (rv_fieldAddr ff36_0 rfl) ?_
 refine wl_val wn rfl (rv_loadmS (ds:=[.slice a1 n2 c3,.slice a5 n6 c7]) tf33 rfl (.tail _ (.head _)) hS20 rfl rfl) ?_
 obtain⟨r21,hx22,h23⟩:=ob hm
 refine wl_call wn rfl (rt_call (vs:=[.agg #[.slice a1 n2 c3,.slice a5 n6 c7]]) co171 rfl) ((ok_impl_cloneConf F) hS20.enter0 hs4 hs8 hx22) ?_
 rintro e35 w25 ⟨a27,n28,c29,a31,n32,c33,K24,rfl,hS26,hs30,hs34⟩
 refine⟨_,rfl,?_⟩
 have hS36:SH _ _ _ _ _ [_,_,_,_]:=SH.call0 hS20 hS26
 refine wl_buildSlice0 tGLiveB wn rfl Tryz.underlying34 tf73 hS36 ?_
 intro a37 w38 K39 hl40 hs41 hS42
 refine wl_val wn rfl (rv_build (cs:=#[.slice a27 n28 c29,.slice a31 n32 c33,.slice a37 0 0]) sp36 tf36 rfl (by kernel_rfl)) ?_
 refine wl_alloc wn rfl tf36 hS42 ?_
 intro g43 w44 hS45
 have hS46:SH _ _ _ _ _ [obj g43 [.slice none 0 0,.slice none 0 0,.slice none 0 0] 36,_,_,_,_,_]:=hS45
 refine wl_store (cs':=[.slice a27 n28 c29,.slice a31 n32 c33,.slice a37 0 0]) (v:=.agg #[.slice a27 n28 c29,.slice a31 n32 c33,.slice a37 0 0]) wn tf36 rfl rfl rfl (by simp [Value.cells,Value.oneCell']) hS46 rfl rfl ?_
 intro w47 hS48
 refine nsr ?_
 refine wl_val wn rfl (rv_fieldAddr ff36_1 rfl) ?_
 refine wl_val wn rfl (rv_loadm1 tf34 rfl (.tail _ (.tail _ (.tail _ (.tail _ (.tail _ (.head _)))))) hS48 rfl) ?_
 refine wl_val wn rfl (rv_len (t:=tGLive) Tryz.underlying34 rfl (SliceAt.mono (hS26.le.trans hl40) hs12)) ?_
 refine wl_val wn rfl (rv_move (v:=.int .i64 0) rfl) ?_
 refine nq ?_
 obtain⟨o49,h50,h51⟩:=ob h23
 refine wc_cutg (fun E' w'=>∃(a56:Option Addr) (n57 c58:Nat) (a60:Option Addr) (n61 c62:Nat) (a64:Option Addr) (n65 c66:Nat) (K52:KMap) (ps52:List (GLive×Value)),E'=[(2,.pointer (some ⟨g17,0,none⟩)),(3,.pointer (some ⟨g43,0,none⟩))]∧SH w K [] w' K52 [obj g17 [.slice none 0 0,.slice none 0 0,.slice none 0 0] 36,obj g43 [.slice a56 n57 c58,.slice a60 n61 c62,.slice a64 n65 c66] 36,tail (.slice a64 n65 c66) 73 3,pack (deadsOf 3 ps52)]∧KLe K39 K52∧SliceAt tStr K52 a56 n57 c58 o49.Conf.Stops∧SliceAt tGSyn K52 a60 n61 c62 o49.Conf.Syns∧SliceAt tGLiveB K52 a64 n65 c66 ps52∧ps52.map Prod.fst=o49.Segs) ?_ ?_
 ·refine wc_block ?_
  obtain⟨r69,h70,h71⟩:=ob h50
  have hS89:SH _ _ _ _ _ [_,_,_,_,_,_]:=SH.front (p:=[_]) hS48
  have hS90:SH _ _ _ _ _ [_,_,_,_,_,_]:=SH.front (p:=[_]) hS89
  have hS91:SH _ _ _ _ _ [_,_,_,_,_,_]:=SH.front (p:=[_,_,_,_]) hS90
  have hS92q:SH _ _ _ _ _ [_,_,_]:=SH.sublist hS91 (.cons_cons _ (.cons_cons _ (.cons_cons _ (.cons _ (.cons _ (.cons _ .slnil))))))
  have hS92:SH _ _ _ _ _ [_,_,_,_]:=SH.deadsNil hS92q 3
  refine wc_forE' (fun (i72:Nat) (s68:GIndex) E' w'=>∃(a77:Option Addr) (n78 c79:Nat) (a81:Option Addr) (n82 c83:Nat) (a85:Option Addr) (n86 c87:Nat) (K73:KMap) (ps73:List (GLive×Value)),E'=[(2,.pointer (some ⟨g17,0,none⟩)),(3,.pointer (some ⟨g43,0,none⟩)),(12,.slice a9 n10 c11),(13,.int .i64 (p0_x.Segs.length:Int)),(14,.int .i64 ((i72:Nat):Int))]∧SH w K [] w' K73 [obj g17 [.slice none 0 0,.slice none 0 0,.slice none 0 0] 36,obj g43 [.slice a77 n78 c79,.slice a81 n82 c83,.slice a85 n86 c87] 36,tail (.slice a85 n86 c87) 73 3,pack (deadsOf 3 ps73)]∧KLe K39 K73∧SliceAt tStr K73 a77 n78 c79 s68.Conf.Stops∧SliceAt tGSyn K73 a81 n82 c83 s68.Conf.Syns∧SliceAt tGLiveB K73 a85 n86 c87 ps73∧ps73.map Prod.fst=s68.Segs) h70 ⟨a27,n28,c29,a31,n32,c33,a37,0,0,K39,[],rfl,hS92,(KLe.refl _),(SliceAt.mono hl40 hs30),(SliceAt.mono hl40 hs34),hs41,rfl⟩ ⟨rfl,rfl,rfl,rfl,rfl,trivial⟩ ?_ ?_
  ·rintro i72 s68 _ w75 r93 hi94 h95 ⟨a77,n78,c79,a81,n82,c83,a85,n86,c87,K73,ps73,rfl,hS76,hl74,hs80,hs84,hs88,hf88⟩
   refine sr ?_
   refine wl_val wn rfl (rv_lss rfl rfl) ?_
   refine ns ?_
   refine wc_cond_t rfl (decide_eq_true (by omega)) (wc_skip (qe_seq (wc_seq ?_)))
   refine wc_block ?_
   refine sr ?_
   obtain⟨x97,hx98,h99⟩:=ob h95
   refine wl_indexAddr (t:=tGLive) wn rfl Tryz.underlying34 tf73 rfl rfl (SliceAt.mono ((hS26.le.trans hl40).trans hl74) hs12) hx98 ?_
   intro b100 o101 u102 hu103 ha104
   obtain⟨a105,n106,c107,a109,n110,c111,a113,n114,c115,rfl,hs108,hs112,hs116⟩:=hu103
   have ha117:AtK _ b100 o101 [.slice a105 n106 c107,.slice a109 n110 c111,.slice a113 n114 c115]:=ha104
   refine wl_val wn rfl (rv_loadS (cs:=[.slice a105 n106 c107,.slice a109 n110 c111,.slice a113 n114 c115]) tf73 rfl hS76 ha117 rfl) ?_
   refine wl_alloc wn rfl tf73 hS76 ?_
   intro g118 w119 hS120
   have hS121:SH _ _ _ _ _ [obj g118 [.slice none 0 0,.slice none 0 0,.slice none 0 0] 73,_,_,_,_]:=hS120
   refine wl_store (cs':=[.slice a105 n106 c107,.slice a109 n110 c111,.slice a113 n114 c115]) (v:=.agg #[.slice a105 n106 c107,.slice a109 n110 c111,.slice a113 n114 c115]) wn tf73 rfl rfl rfl (by simp [Value.cells,Value.oneCell']) hS121 rfl rfl ?_
   intro w122 hS123
   refine nq ?_
   refine wc_held (fun w'=>Holds K73 w'∧HasObj g118 [.slice a105 n106 c107,.slice a109 n110 c111,.slice a113 n114 c115] w') (fun w'=>HasObj g43 [.slice a77 n78 c79,.slice a81 n82 c83,.slice a85 n86 c87] w') 7 [(1,5),(1,6),(1,7),(5,6),(5,7),(6,7)] mixed ?_
   have hS125:=SH.drew hS123
   refine wg_val (i:=0) (listed':=L_ 8 0) (fun _=>True) rfl (by kernel_rfl) (pk_block (pk_then (pk_then (pk_block (pk_then (pk_then pk_body)))))) (by kernel_rfl) rfl (by kernel_rfl) (by kernel_rfl) rfl (.inl fun _ _=>trivial) ⟨⟨hS125.hasK (KLe.refl _),hS125.hasObj (.head _)⟩,(fun _=>hS125.hasObj (.tail _ (.tail _ (.head _)))),by decide⟩ wn rfl (fun _ _=>(rv_fieldAddr ff36_1 rfl)) ?_
   refine wg_val (i:=1) (listed':=L_ 8 1) (HasObj g43 [.slice a77 n78 c79,.slice a81 n82 c83,.slice a85 n86 c87]) rfl (by kernel_rfl) (pk_block (pk_then (pk_then (pk_block (pk_then (pk_then pk_body)))))) (by kernel_rfl) rfl (by kernel_rfl) (by kernel_rfl) rfl (.inr ⟨rfl,fun _ _ h=>h⟩) ⟨⟨hS125.hasK (KLe.refl _),hS125.hasObj (.head _)⟩,(fun _=>hS125.hasObj (.tail _ (.tail _ (.head _)))),by decide⟩ wn rfl (fun _ h=>rh_loadm1 tf34 rfl rfl h) ?_
   refine wg_val (i:=2) (listed':=L_ 8 2) (HasObj g118 [.slice a105 n106 c107,.slice a109 n110 c111,.slice a113 n114 c115]) rfl (by kernel_rfl) (pk_block (pk_then (pk_then (pk_block (pk_then (pk_then pk_body)))))) (by kernel_rfl) rfl (by kernel_rfl) (by kernel_rfl) rfl (.inl fun _ h=>h.2) ⟨⟨hS125.hasK (KLe.refl _),hS125.hasObj (.head _)⟩,(fun _=>hS125.hasObj (.tail _ (.tail _ (.head _)))),by decide⟩ wn rfl (fun _ h=>rh_loadmS (ds:=[.slice a105 n106 c107,.slice a109 n110 c111,.slice a113 n114 c115]) tf73 rfl rfl rfl h) ?_
   refine wg_one (i:=3) (by kernel_rfl) rfl ?_
   obtain⟨r126,hx127,h128⟩:=ob h99
   refine wl_call wn rfl (rt_call (vs:=[.agg #[.slice a105 n106 c107,.slice a109 n110 c111,.slice a113 n114 c115]]) co172 rfl) ((ok_impl_cloneLive F) hS125.enter0 hs108 hs112 hs116 hx127) ?_
   rintro e146 w130 ⟨a132,n133,c134,a136,n137,c138,a140,n141,c142,cs143,K129,rfl,hS131,hs135,hs139,hrow144,hm145⟩
   refine⟨_,rfl,?_⟩
   have hS147:SH _ _ _ _ _ [_,_,_,_,_,_]:=SH.call0 hS125 hS131
   obtain⟨hcsq,hzq⟩:=rowZ hrow144
   subst hcsq
   have hl149:=KLe.refl K129
   have hS151:=hS147
   refine wl_nil (qe_held (listed':=L_ 8 3) rfl ⟨⟨hS151.hasK (hS131.le.trans hl149),hS151.hasObj (.tail _ (.head _))⟩,(fun _=>hS151.hasObj (.tail _ (.tail _ (.tail _ (.head _))))),by decide⟩ ?_)
   refine wg_one (i:=4) (by kernel_rfl) rfl ?_
   refine wl_buildSlice (t:=tGLiveB) (n:=1) (pv:=[(0,.agg #[.slice a132 n133 c134,.slice a136 n137 c138,.slice a140 n141 c142])]) (cs:=[.slice a132 n133 c134,.slice a136 n137 c138,.slice a140 n141 c142]) (xs:=[(r126,.slice a140 n141 c142)]) wn rfl Tryz.underlying34 tf73 rfl rfl rfl (by kernel_rfl) rfl rfl (lit_cons (t:=tGLiveB) (u:=.agg #[.slice a132 n133 c134,.slice a136 n137 c138,.slice a140 n141 c142]) (z:=(r126,.slice a140 n141 c142)) ⟨a132,n133,c134,a136,n137,c138,a140,n141,c142,rfl,(SliceAt.mono hl149 hs135),(SliceAt.mono hl149 hs139),hzq,rfl⟩ lit_nil) hS151 ?_
   intro a152 w153 K154 hl155 hs156 hS157
   refine wl_nil (qe_held (listed':=L_ 8 4) rfl ⟨⟨hS157.hasK ((hS131.le.trans hl149).trans hl155),hS157.hasObj (.tail _ (.tail _ (.head _)))⟩,(fun _=>hS157.hasObj (.tail _ (.tail _ (.tail _ (.tail _ (.head _)))))),by decide⟩ ?_)
   refine wg_one (i:=5) (by kernel_rfl) rfl ?_
   have hS158:SH _ _ _ _ _ [_,_,_,_,_,_,_]:=SH.front (p:=[_,_,_,_,_]) hS157
   obtain⟨x159,hx160,h161⟩:=ob h128
   obtain⟨hcq,hfq⟩:=catL_pair (.slice a140 n141 c142) hf88 hx160
   refine wl_append (t:=tGLiveB) wn rfl Tryz.underlying34 tf73 rfl rfl rfl rfl rfl (SliceAt.mono ((hS131.le.trans hl149).trans hl155) hs88) hs156 hcq hS158 ?_
   intro a162 n163 c164 w165 K166 hl167 hs168 hS169
   refine wl_nil (qe_held (listed':=L_ 8 5) rfl ⟨⟨hS169.hasK (((hS131.le.trans hl149).trans hl155).trans hl167),hS169.hasObj (.tail _ (.tail _ (.tail _ (.head _))))⟩,(fun _=>hS169.hasObj (.tail _ (.tail _ (.tail _ (.tail _ (.tail _ (.head _))))))),by decide⟩ ?_)
   refine wg_val (i:=6) (listed':=L_ 8 6) (fun _=>True) rfl (by kernel_rfl) (pk_block (pk_then (pk_then (pk_block (pk_then (pk_then pk_body)))))) (by kernel_rfl) rfl (by kernel_rfl) (by kernel_rfl) rfl (.inl fun _ _=>trivial) ⟨⟨hS169.hasK (((hS131.le.trans hl149).trans hl155).trans hl167),hS169.hasObj (.tail _ (.tail _ (.tail _ (.head _))))⟩,(fun _=>hS169.hasObj (.tail _ (.tail _ (.tail _ (.tail _ (.tail _ (.head _))))))),by decide⟩ wn rfl (fun _ _=>(rv_fieldAddr ff36_1 rfl)) ?_
   refine wg_one (i:=7) (by kernel_rfl) rfl ?_
   have hS170:SH _ _ _ _ _ [_,_,_,_,_,_,_]:=SH.front (p:=[_,_,_,_,_]) hS169
   refine wl_store (cs':=[.slice a77 n78 c79,.slice a81 n82 c83,.slice a162 n163 c164]) (v:=.slice a162 n163 c164) wn tf34 rfl rfl rfl (by simp [Value.cells,Value.oneCell']) hS170 rfl rfl ?_
   intro w171 hS172
   refine wl_nil (qe_held (listed':=L_ 8 7) rfl ⟨⟨hS172.hasK (((hS131.le.trans hl149).trans hl155).trans hl167),hS172.hasObj (.tail _ (.tail _ (.tail _ (.tail _ (.head _)))))⟩,(fun h=>nomatch h),by decide⟩ ?_)
   refine wg_done (by kernel_rfl) ?_
   refine qe_block ?_
   refine qg ?_
   refine wl_val wn rfl (rv_add_to rfl rfl (w64_succ hi94 (SliceAt.max (SliceAt.mono (hS26.le.trans hl40) hs12)))) ?_
   refine vm rfl rfl ?_
   refine wl_nil ?_
   obtain rfl:=oi h161
   have hS173:SH _ _ _ _ _ [_,_,_,_,_,_,_]:=SH.front (p:=[_]) hS172
   have hS174:SH _ _ _ _ _ [_,_,_,_,_,_,_]:=SH.front (p:=[_]) hS173
   have hS175:SH _ _ _ _ _ [_,_,_,_,_,_,_]:=SH.front (p:=[_,_,_,_,_]) hS174
   have hS176q:SH _ _ _ _ _ [_,_,_,_,_]:=SH.sublist hS175 (.cons_cons _ (.cons_cons _ (.cons_cons _ (.cons _ (.cons_cons _ (.cons _ (.cons_cons _ .slnil)))))))
   have hS176:SH _ _ _ _ _ [_,_,_,_]:=SH.deadsAdd (q:=[_,_,_]) hS176q
   exact qe_mid' ⟨a77,n78,c79,a81,n82,c83,a162,n163,c164,K166,_,rfl,hS176,((((hl74.trans hS131.le).trans hl149).trans hl155).trans hl167),(SliceAt.mono (((hS131.le.trans hl149).trans hl155).trans hl167) hs80),(SliceAt.mono (((hS131.le.trans hl149).trans hl155).trans hl167) hs84),hs168,hfq⟩ ⟨rfl,rfl,rfl,rfl,rfl,trivial⟩
  ·rintro s68 _ w75 hr177 ⟨a77,n78,c79,a81,n82,c83,a85,n86,c87,K73,ps73,rfl,hS76,hl74,hs80,hs84,hs88,hf88⟩
   subst hr177
   refine sr ?_
   refine wl_val wn rfl (rv_lss rfl rfl) ?_
   refine ns ?_
   refine wc_cond_f rfl (decide_eq_false (by omega)) ?_
   refine wc_exit ?_
   refine qe_then_exit ?_
   refine qe_then_exit ?_
   refine qe_block_eq ?_
   obtain rfl:=oi h71
   exact qe_mid' ⟨a77,n78,c79,a81,n82,c83,a85,n86,c87,K73,ps73,rfl,hS76,hl74,hs80,hs84,hs88,hf88⟩ ⟨rfl,rfl,trivial⟩
 ·rintro _ w54 ⟨a56,n57,c58,a60,n61,c62,a64,n65,c66,K52,ps52,rfl,hS55,hl53,hs59,hs63,hs67,hf67⟩
  refine qr ?_
  refine wl_val wn rfl (rv_loadmS (ds:=[.slice a56 n57 c58,.slice a60 n61 c62,.slice a64 n65 c66]) tf36 rfl (.tail _ (.head _)) hS55 rfl rfl) ?_
  refine wl_store (cs':=[.slice a56 n57 c58,.slice a60 n61 c62,.slice a64 n65 c66]) (v:=.agg #[.slice a56 n57 c58,.slice a60 n61 c62,.slice a64 n65 c66]) wn tf36 rfl rfl rfl (by simp [Value.cells,Value.oneCell']) hS55 rfl rfl ?_
  intro w178 hS179
  refine nq ?_
  refine wc_ret ?_
  obtain rfl:=oi h51
  have hS180:SH _ _ _ _ _ [_,_]:=SH.sublist hS179 (.cons _ (.cons _ (.cons_cons _ (.cons_cons _ .slnil))))
  exact qe_ret (vs:=[_]) Tryz.results107 ⟨⟨_,_,rfl,run_loadVar_at tf36 (cs:=[.slice a56 n57 c58,.slice a60 n61 c62,.slice a64 n65 c66]) (fun j c e=>by rw [Nat.zero_add,hS179.mem_obj (.head _)];exact e) (.inl ⟨rfl,rfl,rfl⟩)⟩,trivial⟩ ⟨a56,n57,c58,a60,n61,c62,a64,n65,c66,K52,ps52,rfl,hS180,hs59,hs63,hs67,hf67⟩

theorem ok_impl_Live_alive__ar {cs12:List Value}{q0:GLive}{r:(List GDoc)}(hS:SH w K Z w K [rowI (V3 C f i) cs12 3 1])(V:SliceAt tGDoc K A a b q0.Seg.Docs)(bc:SliceAt tGEntry K B c d q0.Seg.Entries)(hrow13:RowAt true tInt K cs12 q0.Dead)(hm14:f=q0.Dead.length)(hm:M.impl_Live_alive__ar F q0=some r):
  Calls prog 128 #[.agg #[V3 A a b,V3 B c d,V3 C f i]] w fun e w'=>∃a_1 n_2 c_3 K',e= .returned (V3 a_1 n_2 c_3)∧SH w K Z w' K' [tail (V3 a_1 n_2 c_3) 77 3,rowI (V3 C f i) cs12 3 1]∧SliceAt tGDoc K' a_1 n_2 c_3 r:=by
 rw [M.impl_Live_alive__ar] at hm
 refine ci func128 u ntmps128 (sr (bx u hS fun Y bd aj=>?_))
 have ak:SH _ _ _ _ _ [obj Y [V3 A a b,V3 B c d,V3 C f i] 73,_]:=aj
 refine lv (r_n u) (nr (b0 tGDoc underlying43 tf77 ak fun am be aa J an af=>(av u (nsr (fa ff73_0 u (fl ff46_0 u tf43 m1 af u (lv (rv_len underlying43 u (V.mono J)) (lv (r_m u) (nq ?_)))))))))
 obtain⟨ao,ap,aq⟩:=ob hm
 refine wc_cutg (fun E' w'=>∃O R T U,E'=[(3,V3 O R T)]∧SH w K Z w' U [tail (V3 O R T) 77 3,rowI (V3 C f i) cs12 3 1]∧KLe aa U∧SliceAt tGDoc U O R T ao) ?_ ?_
 ·refine wc_block ?_
  obtain⟨bf,ar,au⟩:=ob ap
  refine qF (fun (ag:Nat) (ab:(List GDoc)) E' w'=>∃k l m o,E'=[(1,pt Y),(3,V3 k l m),(9,V3 A a b),(10,V6 (q0.Seg.Docs.length:Int)),(11,V6 ((ag:Nat):Int))]∧SH w K Z w' o [obj Y [V3 A a b,V3 B c d,V3 C f i] 73,rowI (V3 C f i) cs12 3 1,tail (V3 k l m) 77 3]∧KLe aa o∧SliceAt tGDoc o k l m ab) ar ⟨am,0,0,aa,u,af.f2.f2,kr,an⟩ ?_ ?_
  ·rintro ag ab _ aw bg hi53 ax ⟨k,l,m,o,rfl,W,q,X⟩
   refine sr (lv (rv_lss u u) (ns (wc_cond_t u (decide_eq_true (by omega)) (wc_skip (qe_seq (wc_seq (wc_block (sr ?_))))))))
   obtain⟨s,ay,az⟩:=ob ax
   refine li underlying43 tf77 (V.mono (J.trans q)) ay fun aA aB bh aC aD=>?_
   obtain⟨x,y,D,G,H,I,rfl,ah,aE,aF⟩:=aC
   have aG:AtK _ aA aB [V6 s.Id,V3 x y D,V3 G H I]:=aD
   refine lv (rv_loadS tf77 u W aG u) (al tf77 W fun aH bi aI=>?_)
   have aJ:SH _ _ _ _ _ [obj aH [V6 0,V3 none 0 0,V3 none 0 0] 77,_,_,_]:=aI
   refine lw [V6 s.Id,V3 x y D,V3 G H I] tf77 aJ fun bj ac=>(nr (fl ff73_1 u tf71 m1 ac u (fl ff77_0 u tf3 m0 ac u ?_)))
   obtain⟨bk,aK,aL⟩:=ob az
   refine lk co178 (lend_call (t:=tInt) (S:=True) ac m2 Nat.one_pos (RowAt.mono (J.trans q) hrow13) (fun hL hQ=>(ok_slices_Contains_int F hL hQ ah aK).mono fun e w' ⟨K',he,h⟩=>⟨K',he,h,trivial⟩)) ?_
   rintro bl bm ⟨rfl,aM,_⟩
   have ad:SH _ _ _ _ _ [_,_,_,_]:=aM
   refine lv (rv_not u) (nq (wcc aL u (fun aN ae=>?_) (fun aN ae=>?_)))
   ·refine wc_region (mv u (lv (rv_loadmS (ds:=[V6 s.Id,V3 x y D,V3 G H I]) tf77 u m0 ad u u) (lb tGDoc (.agg #[V6 s.Id,V3 x y D,V3 G H I]) [V6 s.Id,V3 x y D,V3 G H I] s underlying43 tf77 ⟨x,y,D,G,H,I,u,ah,aE,aF⟩ ad fun bn bo bp ai aO aP=>?_)))
    obtain⟨bq,aQ,aR⟩:=ob ae
    refine lp underlying43 tf77 (X.mono ai) aO aQ aP.f4 fun aS aT aU br aV aW aX aY=>(av u (nb (qg (lv (rv_add_to u u (w64_succ hi53 (SliceAt.max (V.mono J)))) (mv u (wl_nil ?_))))))
    cases oi aR
    exact qd ⟨aS,aT,aU,aV,u,aY.f4.f4.s,((q.trans ai).trans aW),aX⟩
   refine wc_skip (qe_block (qg (lv (rv_add_to u u (w64_succ hi53 (SliceAt.max (V.mono J)))) (mv u (wl_nil ?_)))))
   cases oi ae
   exact qd ⟨k,l,m,o,u,ad.s,q,X⟩
  rintro ab _ aw aZ ⟨k,l,m,o,rfl,W,q,X⟩
  subst aZ
  refine sr (lv (rv_lss u u) (ns (wc_cond_f u (decide_eq_false (by omega)) (wc_exit (qe_then_exit (qe_then_exit (qe_block_eq ?_)))))))
  cases oi au
  exact qd ⟨k,l,m,o,u,W.f1.f2.s,q,X⟩
 rintro _ bs ⟨O,R,T,U,rfl,ba,bu,bb⟩
 refine qr (mv u (av u (nq (wc_ret ?_))))
 cases oi aq
 exact ey results128 ⟨O,R,T,U,u,ba,bb⟩

set_option maxHeartbeats 2000000 in
theorem own_impl_Index_drop (F:Nat){w:World}{K:KMap}{g1:Nat}{a2:Option Addr}{n3 c4:Nat}{a6:Option Addr}{n7 c8:Nat}{a10:Option Addr}{n11 c12:Nat}{a14:Option Addr}{n15 c16:Nat}{ps:List (GLive×Value)}{p0_x:GIndex}{p1_ids:List Int}{r:Int×GIndex}(hS:SH w K (List.flatMap Item.gs [obj g1 [.slice a2 n3 c4,.slice a6 n7 c8,.slice a10 n11 c12] 36,pack (deadsOf 3 ps)]) w K [obj g1 [.slice a2 n3 c4,.slice a6 n7 c8,.slice a10 n11 c12] 36,pack (deadsOf 3 ps)])(hs5:SliceAt tStr K a2 n3 c4 p0_x.Conf.Stops)(hs9:SliceAt tGSyn K a6 n7 c8 p0_x.Conf.Syns)(hs13:SliceAt tGLiveB K a10 n11 c12 ps)(hfp:ps.map Prod.fst=p0_x.Segs)(hs17:SliceAt tInt K a14 n15 c16 p1_ids)(hm:M.impl_Index_drop F p0_x p1_ids=some r):
  Calls Tryz.prog 113 #[.pointer (some ⟨g1,0,none⟩),.slice a14 n15 c16] w fun e w'=>∃(a_2:Option Addr) (n_3 c_4:Nat) (a_6:Option Addr) (n_7 c_8:Nat) (a_10:Option Addr) (n_11 c_12:Nat) (K':KMap),e= .returned (.int .i64 r.1)∧SH w K (List.flatMap Item.gs [obj g1 [.slice a2 n3 c4,.slice a6 n7 c8,.slice a10 n11 c12] 36,pack (deadsOf 3 ps)]) w' K' [obj g1 [.slice a_2 n_3 c_4,.slice a_6 n_7 c_8,.slice a_10 n_11 c_12] 36,tail (.slice a_10 n_11 c_12) 73 3]∧rng64 r.1∧SliceAt tStr K' a_2 n_3 c_4 r.2.Conf.Stops∧SliceAt tGSyn K' a_6 n_7 c_8 r.2.Conf.Syns∧SliceAt tGLive K' a_10 n_11 c_12 r.2.Segs:=by
 have hn0:n11=p0_x.Segs.length:=hs13.1.trans (by rw [←hfp,List.length_map])
 have hmx0:p0_x.Segs.length≤maxLen:=by have:=hs13.max;rwa [←hn0,hs13.1]
 rw [M.impl_Index_drop] at hm
 refine calls_in Tryz.func113 rfl Tryz.ntmps113 rfl ?_
 refine sr ?_
 refine wl_val wn rfl (rv_assign (v:=.int .i64 0) rfl) ?_
 refine nr ?_
 refine wl_val wn rfl (rv_assign (v:=.int .i64 0) rfl) ?_
 refine nr ?_
 refine wl_buildSlice0 tGLive wn rfl Tryz.underlying34 tf73 hS ?_
 intro a18 w19 K20 hl21 hs22 hS23
 refine va rfl rfl ?_
 refine nsr ?_
 refine vm rfl rfl ?_
 refine wl_val wn rfl (rv_nilCheck rfl) ?_
 refine wl_val wn rfl (rv_fieldAddr ff36_1 rfl) ?_
 refine wl_val wn rfl (rv_loadm1 tf34 rfl (.tail _ (.head _)) hS23 rfl) ?_
 refine wl_val wn rfl (rv_lenRow Tryz.underlying34 rfl hn0) ?_
 refine wl_val wn rfl (rv_move (v:=.int .i64 0) rfl) ?_
 refine nq ?_
 obtain⟨o24,h25,h26⟩:=ob hm
 refine wc_cutg (fun E' w'=>∃(a32:Option Addr) (n33 c34:Nat) (K27:KMap),E'=[(0,.pointer (some ⟨g1,0,none⟩)),(5,.int .i64 o24.1),(6,.slice a32 n33 c34)]∧SH w K (List.flatMap Item.gs [obj g1 [.slice a2 n3 c4,.slice a6 n7 c8,.slice a10 n11 c12] 36,pack (deadsOf 3 ps)]) w' K27 [obj g1 [.slice a2 n3 c4,.slice a6 n7 c8,.slice a10 n11 c12] 36,tail (.slice a32 n33 c34) 73 3]∧KLe K20 K27∧rng64 o24.1∧SliceAt tGLive K27 a32 n33 c34 o24.2) ?_ ?_
 ·refine wc_block ?_
  obtain⟨r37,h38,h39⟩:=ob h25
  have hS50:SH _ _ _ _ _ [_,_,pack (deadsOf 3 (ps.drop 0))]:=SH.front (p:=[_]) hS23
  refine wc_forE' (fun (i40:Nat) (s36:Int×(List GLive)) E' w'=>∃(a46:Option Addr) (n47 c48:Nat) (K41:KMap),E'=[(0,.pointer (some ⟨g1,0,none⟩)),(1,.slice a14 n15 c16),(5,.int .i64 s36.1),(6,.slice a46 n47 c48),(15,.slice a10 n11 c12),(16,.int .i64 (p0_x.Segs.length:Int)),(17,.int .i64 ((i40:Nat):Int))]∧SH w K (List.flatMap Item.gs [obj g1 [.slice a2 n3 c4,.slice a6 n7 c8,.slice a10 n11 c12] 36,pack (deadsOf 3 ps)]) w' K41 [obj g1 [.slice a2 n3 c4,.slice a6 n7 c8,.slice a10 n11 c12] 36,tail (.slice a46 n47 c48) 73 3,pack (deadsOf 3 (ps.drop i40))]∧KLe K20 K41∧rng64 s36.1∧SliceAt tGLive K41 a46 n47 c48 s36.2) h38 ⟨a18,0,0,K20,rfl,hS50,(KLe.refl _),d_0,hs22⟩ ⟨rfl,rfl,rfl,rfl,rfl,rfl,rfl,trivial⟩ ?_ ?_
  ·rintro i40 s36 _ w43 r51 hi52 h53 ⟨a46,n47,c48,K41,rfl,hS44,hl42,hr45,hs49⟩
   refine sr ?_
   refine wl_val wn rfl (rv_lss rfl rfl) ?_
   refine ns ?_
   refine wc_cond_t rfl (decide_eq_true (by omega)) (wc_skip (qe_seq (wc_seq ?_)))
   refine wc_block ?_
   refine sr ?_
   obtain⟨x55,hx56,h57⟩:=ob h53
   obtain⟨vP,hgP,hpP⟩:=fst_at hfp hx56
   refine wl_indexAddr (t:=tGLiveB) wn rfl Tryz.underlying34 tf73 rfl rfl (SliceAt.mono (hl21.trans hl42) hs13) hgP ?_
   intro b58 o59 u60 hu61 ha62
   obtain⟨a63,n64,c65,a67,n68,c69,a71,n72,c73,rfl,hs66,hs70,hzP,hvP⟩:=hu61
   dsimp only at hvP
   subst hvP
   have ha75:AtK _ b58 o59 [.slice a63 n64 c65,.slice a67 n68 c69,.slice a71 n72 c73]:=ha62
   refine wl_val wn rfl (rv_loadS (cs:=[.slice a63 n64 c65,.slice a67 n68 c69,.slice a71 n72 c73]) tf73 rfl hS44 ha75 rfl) ?_
   have hS79:SH _ _ _ _ _ [_,_,_,_]:=SH.deadTake (q:=[_,_]) hS44 hpP
   have hm78:=dead_len hS79 (.head _)
   have hrow77:=rowZ_of (K:=K41) hzP
   refine wl_alloc wn rfl tf73 hS79 ?_
   intro g80 w81 hS82
   have hS83:SH _ _ _ _ _ [obj g80 [.slice none 0 0,.slice none 0 0,.slice none 0 0] 73,_,_,_,_]:=hS82
   refine wl_store (cs':=[.slice a63 n64 c65,.slice a67 n68 c69,.slice a71 n72 c73]) (v:=.agg #[.slice a63 n64 c65,.slice a67 n68 c69,.slice a71 n72 c73]) wn tf73 rfl rfl rfl (by simp [Value.cells,Value.oneCell']) hS83 rfl rfl ?_
   intro w84 hS85
   refine nsr ?_
   refine wl_val wn rfl (rv_loadmS (ds:=[.slice a63 n64 c65,.slice a67 n68 c69,.slice a71 n72 c73]) tf73 rfl (.head _) hS85 rfl rfl) ?_
   obtain⟨r86,hx87,h88⟩:=ob h57
   have hS89:SH _ _ _ _ _ [_,_,_,_,_]:=SH.front (p:=[_]) hS85
   refine wl_call wn rfl (rt_call (vs:=[.agg #[.slice a63 n64 c65,.slice a67 n68 c69,.slice a71 n72 c73]]) co128 rfl) ((ok_impl_Live_alive__ar F) (SH.enter (Lin:=[_]) hS89) hs66 hs70 hrow77 hm78 hx87) ?_
   rintro e97 w91 ⟨a93,n94,c95,K90,rfl,hS92,hs96⟩
   refine⟨_,rfl,?_⟩
   have hS98:SH _ _ _ _ _ [_,_,_,_,_,_]:=SH.call (Lin:=[_]) hS89 hS92
   refine wl_val wn rfl (rv_len (t:=tGDoc) Tryz.underlying43 rfl hs96) ?_
   refine wl_val wn rfl (rv_move (v:=.int .i64 0) rfl) ?_
   refine nq ?_
   obtain⟨o99,h100,h101⟩:=ob h88
   refine wc_cutg (fun E' w'=>∃(a107:Option Addr) (n108 c109:Nat) (a111:Option Addr) (n112 c113:Nat) (a115:Option Addr) (n116 c117:Nat) (cs118:List Value) (K102:KMap),E'=[(0,.pointer (some ⟨g1,0,none⟩)),(1,.slice a14 n15 c16),(5,.int .i64 o99.1),(6,.slice a46 n47 c48),(8,.pointer (some ⟨g80,0,none⟩)),(15,.slice a10 n11 c12),(16,.int .i64 (p0_x.Segs.length:Int)),(17,.int .i64 ((i40:Nat):Int))]∧SH w K (List.flatMap Item.gs [obj g1 [.slice a2 n3 c4,.slice a6 n7 c8,.slice a10 n11 c12] 36,pack (deadsOf 3 ps)]) w' K102 [obj g1 [.slice a2 n3 c4,.slice a6 n7 c8,.slice a10 n11 c12] 36,obj g80 [.slice a107 n108 c109,.slice a111 n112 c113,.slice a115 n116 c117] 73,rowI (.slice a115 n116 c117) cs118 3 1,tail (.slice a46 n47 c48) 73 3,pack (deadsOf 3 (ps.drop (i40+1)))]∧KLe K90 K102∧rng64 o99.1∧SliceAt tGDoc K102 a107 n108 c109 o99.2.Seg.Docs∧SliceAt tGEntry K102 a111 n112 c113 o99.2.Seg.Entries∧RowAt true tInt K102 cs118 o99.2.Dead∧n116=o99.2.Dead.length) ?_ ?_
   ·refine wc_block ?_
    obtain⟨r122,h123,h124⟩:=ob h100
    have hS145:SH _ _ _ _ _ [_,_,_,_,_,_]:=SH.front (p:=[_,_,_,_]) hS98
    have hS146:SH _ _ _ _ _ [_,_,_,_,_,_]:=SH.front (p:=[_,_]) hS145
    have hS147:SH _ _ _ _ _ [_,_,_,_,_,_]:=SH.front (p:=[_,_,_]) hS146
    have hS148:SH _ _ _ _ _ [_,_,_,_,_,_]:=SH.front (p:=[_,_,_,_]) hS147
    have hS149:SH _ _ _ _ _ [_,_,_,_,_]:=SH.sublist hS148 (.cons_cons _ (.cons_cons _ (.cons_cons _ (.cons_cons _ (.cons _ (.cons_cons _ .slnil))))))
    refine wc_forE' (fun (i125:Nat) (s121:Int×GLive) E' w'=>∃(a131:Option Addr) (n132 c133:Nat) (a135:Option Addr) (n136 c137:Nat) (a139:Option Addr) (n140 c141:Nat) (cs142:List Value) (K126:KMap),E'=[(0,.pointer (some ⟨g1,0,none⟩)),(1,.slice a14 n15 c16),(5,.int .i64 s121.1),(6,.slice a46 n47 c48),(8,.pointer (some ⟨g80,0,none⟩)),(15,.slice a10 n11 c12),(16,.int .i64 (p0_x.Segs.length:Int)),(17,.int .i64 ((i40:Nat):Int)),(22,.slice a93 n94 c95),(23,.int .i64 (r86.length:Int)),(24,.int .i64 ((i125:Nat):Int))]∧SH w K (List.flatMap Item.gs [obj g1 [.slice a2 n3 c4,.slice a6 n7 c8,.slice a10 n11 c12] 36,pack (deadsOf 3 ps)]) w' K126 [obj g1 [.slice a2 n3 c4,.slice a6 n7 c8,.slice a10 n11 c12] 36,obj g80 [.slice a131 n132 c133,.slice a135 n136 c137,.slice a139 n140 c141] 73,rowI (.slice a139 n140 c141) cs142 3 1,tail (.slice a46 n47 c48) 73 3,pack (deadsOf 3 (ps.drop (i40+1)))]∧KLe K90 K126∧rng64 s121.1∧SliceAt tGDoc K126 a131 n132 c133 s121.2.Seg.Docs∧SliceAt tGEntry K126 a135 n136 c137 s121.2.Seg.Entries∧RowAt true tInt K126 cs142 s121.2.Dead∧n140=s121.2.Dead.length) h123 ⟨a63,n64,c65,a67,n68,c69,a71,n72,c73,(x55.Dead.map (Value.int .i64)),K90,rfl,hS149,(KLe.refl _),hr45,(SliceAt.mono hS92.le hs66),(SliceAt.mono hS92.le hs70),(RowAt.mono hS92.le hrow77),hm78⟩ ⟨rfl,rfl,rfl,rfl,rfl,rfl,rfl,rfl,rfl,rfl,rfl,trivial⟩ ?_ ?_
    ·rintro i125 s121 _ w128 r150 hi151 h152 ⟨a131,n132,c133,a135,n136,c137,a139,n140,c141,cs142,K126,rfl,hS129,hl127,hr130,hs134,hs138,hrow143,hm144⟩
     refine sr ?_
     refine wl_val wn rfl (rv_lss rfl rfl) ?_
     refine ns ?_
     refine wc_cond_t rfl (decide_eq_true (by omega)) (wc_skip (qe_seq (wc_seq ?_)))
     refine wc_block ?_
     refine sr ?_
     obtain⟨x154,hx155,h156⟩:=ob h152
     refine wl_indexAddr (t:=tGDoc) wn rfl Tryz.underlying43 tf77 rfl rfl (SliceAt.mono hl127 hs96) hx155 ?_
     intro b157 o158 u159 hu160 ha161
     obtain⟨a163,n164,c165,a167,n168,c169,rfl,hr162,hs166,hs170⟩:=hu160
     have ha171:AtK _ b157 o158 [.int .i64 x154.Id,.slice a163 n164 c165,.slice a167 n168 c169]:=ha161
     refine wl_val wn rfl (rv_loadS (cs:=[.int .i64 x154.Id,.slice a163 n164 c165,.slice a167 n168 c169]) tf77 rfl hS129 ha171 rfl) ?_
     refine wl_alloc wn rfl tf77 hS129 ?_
     intro g172 w173 hS174
     have hS175:SH _ _ _ _ _ [obj g172 [.int .i64 0,.slice none 0 0,.slice none 0 0] 77,_,_,_,_,_]:=hS174
     refine wl_store (cs':=[.int .i64 x154.Id,.slice a163 n164 c165,.slice a167 n168 c169]) (v:=.agg #[.int .i64 x154.Id,.slice a163 n164 c165,.slice a167 n168 c169]) wn tf77 rfl rfl rfl (by simp [Value.cells,Value.oneCell']) hS175 rfl rfl ?_
     intro w176 hS177
     refine nr ?_
     refine vm rfl rfl ?_
     refine wl_val wn rfl (rv_fieldAddr ff77_0 rfl) ?_
     refine wl_val wn rfl (rv_loadm1 tf3 rfl (.head _) hS177 rfl) ?_
     obtain⟨r178,hx179,h180⟩:=ob h156
     refine wl_call wn rfl (rt_call (vs:=[.slice a14 n15 c16,.int .i64 x154.Id]) co178 rfl) ((ok_slices_Contains_int F) hS177.enter0 (SliceAt.mono (((hl21.trans hl42).trans hS92.le).trans hl127) hs17) hr162 hx179) ?_
     rintro e184 w182 ⟨K181,rfl,hS183⟩
     refine⟨_,rfl,?_⟩
     have hS185:SH _ _ _ _ _ [_,_,_,_,_,_]:=SH.call0 hS177 hS183
     refine nq ?_
     refine wc_cond rfl (fun hb186=>?_) (fun hb186=>?_)
     ·have h187:=cond_t hb186 h180
      refine sr ?_
      refine wl_val wn rfl (rv_fieldAddr ff73_1 rfl) ?_
      refine wl_val wn rfl (rv_loadm1 tf71 rfl (.tail _ (.tail _ (.head _))) hS185 rfl) ?_
      refine wl_val wn rfl (rv_fieldAddr ff77_0 rfl) ?_
      refine wl_val wn rfl (rv_loadm1 tf3 rfl (.head _) hS185 rfl) ?_
      refine wl_buildSlice (t:=tInt) (n:=1) (pv:=[(0,.int .i64 x154.Id)]) (cs:=[.int .i64 x154.Id]) (xs:=[x154.Id]) wn rfl Tryz.underlying71 tf3 rfl rfl rfl (by kernel_rfl) rfl rfl (lit_cons (u:=.int .i64 x154.Id) (z:=x154.Id) ⟨rfl,hr162⟩ lit_nil) hS185 ?_
      intro a188 w189 K190 hl191 hs192 hS193
      have hS194:SH _ _ _ _ _ [_,_,_,_,_,_,_]:=SH.front (p:=[_,_,_,_]) hS193
      obtain⟨x195,hx196,h197⟩:=ob h187
      refine wl_appendR (t:=tInt) wn rfl Tryz.underlying71 tf3 rfl rfl rfl rfl (RowAt.mono (hS183.le.trans hl191) hrow143) hm144 hs192 hx196 hS194 ?_
      intro a198 n199 c200 cs201 w202 hrow203 hm204 hS205
      refine wl_val wn rfl (rv_fieldAddr ff73_1 rfl) ?_
      have hS206:SH _ _ _ _ _ [_,_,_,_,_,_,_]:=SH.front (p:=[_,_,_,_]) hS205
      refine wl_store (cs':=[.slice a131 n132 c133,.slice a135 n136 c137,.slice a198 n199 c200]) (v:=.slice a198 n199 c200) wn tf71 rfl rfl rfl (by simp [Value.cells,Value.oneCell']) hS206 rfl rfl ?_
      intro w207 hS208
      refine nq ?_
      refine wc_region ?_
      refine vm rfl rfl ?_
      refine wl_val wn rfl (rv_add rfl rfl) ?_
      refine va rfl rfl ?_
      refine nb ?_
      refine qg ?_
      refine wl_val wn rfl (rv_add_to rfl rfl (w64_succ hi151 (SliceAt.max hs96))) ?_
      refine vm rfl rfl ?_
      refine wl_nil ?_
      obtain rfl:=oi h197
      have hS209:SH _ _ _ _ _ [_,_,_,_,_,_,_]:=SH.front (p:=[_,_,_,_,_]) hS208
      have hS210:SH _ _ _ _ _ [_,_,_,_,_,_,_]:=SH.front (p:=[_,_]) hS209
      have hS211:SH _ _ _ _ _ [_,_,_,_,_,_,_]:=SH.front (p:=[_,_]) hS210
      have hS212:SH _ _ _ _ _ [_,_,_,_,_,_,_]:=SH.front (p:=[_,_,_,_,_]) hS211
      have hS213:SH _ _ _ _ _ [_,_,_,_,_]:=SH.sublist hS212 (.cons_cons _ (.cons_cons _ (.cons_cons _ (.cons_cons _ (.cons _ (.cons _ (.cons_cons _ .slnil)))))))
      exact qe_mid' ⟨a131,n132,c133,a135,n136,c137,a198,n199,c200,cs201,K190,rfl,hS213,((hl127.trans hS183.le).trans hl191),(w64_rng _),(SliceAt.mono (hS183.le.trans hl191) hs134),(SliceAt.mono (hS183.le.trans hl191) hs138),hrow203,hm204⟩ ⟨rfl,rfl,rfl,rfl,rfl,rfl,rfl,rfl,rfl,rfl,rfl,trivial⟩
     ·have h187:=cond_f hb186 h180
      refine wc_skip ?_
      refine qe_block ?_
      refine qg ?_
      refine wl_val wn rfl (rv_add_to rfl rfl (w64_succ hi151 (SliceAt.max hs96))) ?_
      refine vm rfl rfl ?_
      refine wl_nil ?_
      obtain rfl:=oi h187
      have hS214:SH _ _ _ _ _ [_,_,_,_,_]:=SH.sublist hS185 (.cons _ (.cons_cons _ (.cons_cons _ (.cons_cons _ (.cons_cons _ (.cons_cons _ .slnil))))))
      exact qe_mid' ⟨a131,n132,c133,a135,n136,c137,a139,n140,c141,cs142,K181,rfl,hS214,(hl127.trans hS183.le),hr130,(SliceAt.mono hS183.le hs134),(SliceAt.mono hS183.le hs138),(RowAt.mono hS183.le hrow143),hm144⟩ ⟨rfl,rfl,rfl,rfl,rfl,rfl,rfl,rfl,rfl,rfl,rfl,trivial⟩
    ·rintro s121 _ w128 hr215 ⟨a131,n132,c133,a135,n136,c137,a139,n140,c141,cs142,K126,rfl,hS129,hl127,hr130,hs134,hs138,hrow143,hm144⟩
     subst hr215
     refine sr ?_
     refine wl_val wn rfl (rv_lss rfl rfl) ?_
     refine ns ?_
     refine wc_cond_f rfl (decide_eq_false (by omega)) ?_
     refine wc_exit ?_
     refine qe_then_exit ?_
     refine qe_then_exit ?_
     refine qe_block_eq ?_
     obtain rfl:=oi h124
     exact qe_mid' ⟨a131,n132,c133,a135,n136,c137,a139,n140,c141,cs142,K126,rfl,hS129,hl127,hr130,hs134,hs138,hrow143,hm144⟩ ⟨rfl,rfl,rfl,rfl,rfl,rfl,rfl,rfl,trivial⟩
   ·rintro _ w104 ⟨a107,n108,c109,a111,n112,c113,a115,n116,c117,cs118,K102,rfl,hS105,hl103,hr106,hs110,hs114,hrow119,hm120⟩
    refine qr ?_
    refine wl_val wn rfl (rv_fieldAddr ff73_1 rfl) ?_
    refine wl_val wn rfl (rv_loadm1 tf71 rfl (.tail _ (.head _)) hS105 rfl) ?_
    have hS216:SH _ _ _ _ _ [_,_,_,_,_]:=SH.front (p:=[_,_]) hS105
    obtain⟨x217,hx218,h219⟩:=ob h101
    refine wl_call wn rfl (rt_call (vs:=[.slice a115 n116 c117]) co179 rfl) (sortZ_call sortLay179 hS216 hrow119 hm120 hx218) ?_
    rintro e225 w221 ⟨cs220,rfl,hS224,hrow222,hm223⟩
    refine⟨_,rfl,?_⟩
    refine nr ?_
    refine wl_val wn rfl (rv_loadmS (ds:=[.slice a107 n108 c109,.slice a111 n112 c113,.slice a115 n116 c117]) tf73 rfl (.tail _ (.tail _ (.head _))) hS224 rfl rfl) ?_
    obtain⟨r226,hx227,h228⟩:=ob h219
    refine wl_call wn rfl (rt_call (vs:=[.agg #[.slice a107 n108 c109,.slice a111 n112 c113,.slice a115 n116 c117]]) co128 rfl) ((ok_impl_Live_alive__ar F (q0:=(GLive.mk o99.2.Seg x217))) (SH.enter (Lin:=[_]) hS224) hs110 hs114 hrow222 hm223 hx227) ?_
    rintro e236 w230 ⟨a232,n233,c234,K229,rfl,hS231,hs235⟩
    refine⟨_,rfl,?_⟩
    have hS237:SH _ _ _ _ _ [_,_,_,_,_,_]:=SH.call (Lin:=[_]) hS224 hS231
    refine wl_val wn rfl (rv_len (t:=tGDoc) Tryz.underlying43 rfl hs235) ?_
    refine wl_val wn rfl (rv_gtr rfl rfl) ?_
    refine nq ?_
    refine wc_cond rfl (fun hb238=>?_) (fun hb238=>?_)
    ·have h239:=cond_t hb238 h228
     refine wc_region ?_
     refine vm rfl rfl ?_
     refine wl_val wn rfl (rv_loadmS (ds:=[.slice a107 n108 c109,.slice a111 n112 c113,.slice a115 n116 c117]) tf73 rfl (.tail _ (.tail _ (.tail _ (.head _)))) hS237 rfl rfl) ?_
     have hS240:SH _ _ _ _ _ [_,_,_,_,_,_]:=SH.front (p:=[_]) hS237
     obtain⟨K241,hl242,hs243,hS244⟩:=SH.freezeI hS240 (RowAt.mono hS231.le hrow222) hm223
     refine wl_buildSlice (t:=tGLive) (n:=1) (pv:=[(0,.agg #[.slice a107 n108 c109,.slice a111 n112 c113,.slice a115 n116 c117])]) (cs:=[.slice a107 n108 c109,.slice a111 n112 c113,.slice a115 n116 c117]) (xs:=[(GLive.mk o99.2.Seg x217)]) wn rfl Tryz.underlying34 tf73 rfl rfl rfl (by kernel_rfl) rfl rfl (lit_cons (u:=.agg #[.slice a107 n108 c109,.slice a111 n112 c113,.slice a115 n116 c117]) (z:=(GLive.mk o99.2.Seg x217)) ⟨a107,n108,c109,a111,n112,c113,a115,n116,c117,rfl,(SliceAt.mono (hS231.le.trans hl242) hs110),(SliceAt.mono (hS231.le.trans hl242) hs114),hs243⟩ lit_nil) hS244 ?_
     intro a245 w246 K247 hl248 hs249 hS250
     have hS251:SH _ _ _ _ _ [_,_,_,_,_,_,_]:=SH.front (p:=[_,_,_,_,_]) hS250
     obtain⟨x252,hx253,h254⟩:=ob h239
     refine wl_append (t:=tGLive) wn rfl Tryz.underlying34 tf73 rfl rfl rfl rfl rfl (SliceAt.mono ((((hS92.le.trans hl103).trans hS231.le).trans hl242).trans hl248) hs49) hs249 hx253 hS251 ?_
     intro a255 n256 c257 w258 K259 hl260 hs261 hS262
     refine va rfl rfl ?_
     refine nb ?_
     refine qg ?_
     refine wl_val wn rfl (rv_add_to rfl rfl (w64_succ hi52 hmx0)) ?_
     refine vm rfl rfl ?_
     refine wl_nil ?_
     obtain rfl:=oi h254
     have hS263:SH _ _ _ _ _ [_,_,_,_,_,_,_]:=SH.front (p:=[_,_,_,_]) hS262
     have hS264:SH _ _ _ _ _ [_,_,_]:=SH.sublist hS263 (.cons_cons _ (.cons_cons _ (.cons _ (.cons _ (.cons _ (.cons _ (.cons_cons _ .slnil)))))))
     exact qe_mid' ⟨a255,n256,c257,K259,rfl,hS264,((((((hl42.trans hS92.le).trans hl103).trans hS231.le).trans hl242).trans hl248).trans hl260),hr106,hs261⟩ ⟨rfl,rfl,rfl,rfl,rfl,rfl,rfl,trivial⟩
    ·have h239:=cond_f hb238 h228
     refine wc_skip ?_
     refine qe_block ?_
     refine qg ?_
     refine wl_val wn rfl (rv_add_to rfl rfl (w64_succ hi52 hmx0)) ?_
     refine vm rfl rfl ?_
     refine wl_nil ?_
     obtain rfl:=oi h239
     have hS265:SH _ _ _ _ _ [_,_,_]:=SH.sublist hS237 (.cons _ (.cons _ (.cons_cons _ (.cons _ (.cons_cons _ (.cons_cons _ .slnil))))))
     exact qe_mid' ⟨a46,n47,c48,K229,rfl,hS265,(((hl42.trans hS92.le).trans hl103).trans hS231.le),hr106,(SliceAt.mono ((hS92.le.trans hl103).trans hS231.le) hs49)⟩ ⟨rfl,rfl,rfl,rfl,rfl,rfl,rfl,trivial⟩
  ·rintro s36 _ w43 hr266 ⟨a46,n47,c48,K41,rfl,hS44,hl42,hr45,hs49⟩
   subst hr266
   refine sr ?_
   refine wl_val wn rfl (rv_lss rfl rfl) ?_
   refine ns ?_
   refine wc_cond_f rfl (decide_eq_false (by omega)) ?_
   refine wc_exit ?_
   refine qe_then_exit ?_
   refine qe_then_exit ?_
   refine qe_block_eq ?_
   obtain rfl:=oi h39
   have hS44q:SH _ _ _ _ _ [_,_]:=SH.sublist hS44 (.cons_cons _ (.cons_cons _ (.cons _ .slnil)))
   exact qe_mid' ⟨a46,n47,c48,K41,rfl,hS44q,hl42,hr45,hs49⟩ ⟨rfl,rfl,rfl,trivial⟩
 ·rintro _ w29 ⟨a32,n33,c34,K27,rfl,hS30,hl28,hr31,hs35⟩
  refine qr ?_
  refine vm rfl rfl ?_
  refine vm rfl rfl ?_
  refine wl_val wn rfl (rv_nilCheck rfl) ?_
  refine wl_val wn rfl (rv_fieldAddr ff36_1 rfl) ?_
  refine wl_store (cs':=[.slice a2 n3 c4,.slice a6 n7 c8,.slice a32 n33 c34]) (v:=.slice a32 n33 c34) wn tf34 rfl rfl rfl (by simp [Value.cells,Value.oneCell']) hS30 rfl rfl ?_
  intro w267 hS268
  refine nr ?_
  refine vm rfl rfl ?_
  refine va rfl rfl ?_
  refine nq ?_
  refine wc_ret ?_
  obtain rfl:=oi h26
  have hS269:SH _ _ _ _ _ [_,_]:=hS268
  exact qe_ret (vs:=[_]) Tryz.results113 ⟨rfl,trivial⟩ ⟨a2,n3,c4,a6,n7,c8,a32,n33,c34,K27,rfl,hS269,hr31,(SliceAt.mono (hl21.trans hl28) hs5),(SliceAt.mono (hl21.trans hl28) hs9),hs35⟩

theorem ok_impl_idsOf {q0:List GDoc}{r:(List Int)}(hS:SH w K [] w K [])(y:SliceAt tGDoc K A a b q0)(hm:M.impl_idsOf F q0=some r):
  Calls prog 117 #[V3 A a b] w fun e w'=>∃a_1 n_2 c_3 K',e= .returned (V3 a_1 n_2 c_3)∧SH w K [] w' K' [tail (V3 a_1 n_2 c_3) 3 1]∧SliceAt tInt K' a_1 n_2 c_3 r:=by
 rw [M.impl_idsOf] at hm
 refine ci func117 u ntmps117 (sr (lv (r_n u) (nr (b0 tInt underlying71 tf3 hS fun W w6 B C X Y=>(av u (nsr (mv u (lv (rv_len underlying43 u (y.mono C)) (lv (r_m u) ?_)))))))))
 refine nq ?_
 obtain⟨aa,ab,ac⟩:=ob hm
 refine wc_cutg (fun E' w'=>∃k l m o,E'=[(3,V3 k l m)]∧SH w K [] w' o [tail (V3 k l m) 3 1]∧KLe B o∧SliceAt tInt o k l m aa) ?_ ?_
 ·refine wc_block ?_
  obtain⟨aL,ad,ae⟩:=ob ab
  refine qF (fun (H:Nat) (D:(List Int)) E' w'=>∃c d f i,E'=[(3,V3 c d f),(7,V3 A a b),(8,V6 (q0.length:Int)),(9,V6 ((H:Nat):Int))]∧SH w K [] w' i [tail (V3 c d f) 3 1]∧KLe B i∧SliceAt tInt i c d f D) ad ⟨W,0,0,B,u,Y,kr,X⟩ ?_ ?_
  ·rintro H D _ af aM hi37 ag ⟨c,d,f,i,rfl,s,x,G⟩
   refine sr (lv (rv_lss u u) (ns (wc_cond_t u (decide_eq_true (by omega)) (wc_skip (qe_seq (wc_seq (wc_block (sr ?_))))))))
   obtain⟨q,ah,ai⟩:=ob ag
   refine li underlying43 tf77 (y.mono (C.trans x)) ah fun aj ak aN am an=>?_
   obtain⟨I,J,O,R,S,T,rfl,ao,aO,aP⟩:=am
   have ap:AtK _ aj ak [V6 q.Id,V3 I J O,V3 R S T]:=an
   refine lv (rv_loadS tf77 u s ap u) (al tf77 s fun aq aQ ar=>?_)
   have au:SH _ _ _ _ _ [obj aq [V6 0,V3 none 0 0,V3 none 0 0] 77,_]:=ar
   refine lw [V6 q.Id,V3 I J O,V3 R S T] tf77 au fun aR U=>(nq (wc_region (mv u (fl ff77_0 u tf3 m0 U u (lb tInt (V6 q.Id) [V6 q.Id] q.Id underlying71 tf3 ⟨u,ao⟩ U fun aS aT aU V aw ax=>?_)))))
   obtain⟨aV,ay,az⟩:=ob ai
   refine lp underlying71 tf3 (G.mono V) aw ay ax.f2 fun aA aB aC aW aD aE aF aG=>(av u (nb (qg (lv (rv_add_to u u (w64_succ hi37 (SliceAt.max (y.mono C)))) (mv u (wl_nil ?_))))))
   cases oi az
   exact qd ⟨aA,aB,aC,aD,u,aG.s,((x.trans V).trans aE),aF⟩
  rintro D _ af aH ⟨c,d,f,i,rfl,s,x,G⟩
  subst aH
  refine sr (lv (rv_lss u u) (ns (wc_cond_f u (decide_eq_false (by omega)) (wc_exit (qe_then_exit (qe_then_exit (qe_block_eq ?_)))))))
  cases oi ae
  exact qd ⟨c,d,f,i,u,s,x,G⟩
 rintro _ aX ⟨k,l,m,o,rfl,aI,aY,aJ⟩
 refine qr (mv u (av u (nq (wc_ret ?_))))
 cases oi ac
 exact ey results117 ⟨k,l,m,o,u,aI,aJ⟩

theorem ok_impl_IndexAdd {q0:GIndex}{q1:List GDoc}{r:GIndex×Bool}(hS:SH w K [] w K [])(au:SliceAt tStr K A a b q0.Conf.Stops)(aw:SliceAt tGSyn K B c d q0.Conf.Syns)(bg:SliceAt tGLive K C f i q0.Segs)(ax:SliceAt tGDoc K D k l q1)(hm:M.impl_IndexAdd F q0 q1=some r):
  Calls prog 54 #[.agg #[V3 A a b,V3 B c d,V3 C f i],V3 D k l] w fun e w'=>∃a_1 n_2 c_3 a_5 n_6 c_7 a_9 n_10 c_11 K',e= .returned (.tuple #[.agg #[V3 a_1 n_2 c_3,V3 a_5 n_6 c_7,V3 a_9 n_10 c_11],.bool r.2])∧SH w K [] w' K' [tail (V3 a_9 n_10 c_11) 73 3]∧SliceAt tStr K' a_1 n_2 c_3 r.1.Conf.Stops∧SliceAt tGSyn K' a_5 n_6 c_7 r.1.Conf.Syns∧SliceAt tGLive K' a_9 n_10 c_11 r.1.Segs:=by
 rw [M.impl_IndexAdd] at hm
 refine ci func54 u ntmps54 (sr (bx u hS fun ah dt cf=>?_))
 have cg:SH _ _ _ _ _ [obj ah [V3 A a b,V3 B c d,V3 C f i] 36]:=cf
 refine al tf36 cg fun ay du ch=>?_
 have bh:SH _ _ _ _ _ [obj ay [V3 none 0 0,V3 none 0 0,V3 none 0 0] 36,_]:=ch
 refine lv (r_f u) (nsr (lv (rv_loadmS (ds:=[V3 A a b,V3 B c d,V3 C f i]) tf36 u m1 bh u u) ?_))
 obtain⟨dv,cj,ck⟩:=ob hm
 refine lk co14 (ok_impl_IndexOk F bh.enter0 au aw bg cj) ?_
 rintro dw dx ⟨cl,rfl,m⟩
 have aJ:=(bh.c0 m).t2
 refine lv (rv_not u) (nq (wcc ck u (fun cm bi=>?_) (fun cm bi=>?_)))
 ·refine sr (lv (rv_build (cs:=#[V3 none 0 0,V3 none 0 0,V3 none 0 0]) sp36 tf36 u (by kernel_rfl)) (lw [V3 none 0 0,V3 none 0 0,V3 none 0 0] tf36 aJ fun dy bL=>(lv (r_f u) (nq (rr ?_)))))
  cases oi bi
  have cn:=bL.nil 73 3
  exact qe_ret (vs:=[_,_]) results54 ⟨⟨_,_,u,run_loadVar_at tf36 (cs:=[V3 none 0 0,V3 none 0 0,V3 none 0 0]) (fun j c e=>by rw [Nat.zero_add,bL.mem_obj m0];exact e) (.inl ⟨u,u,u⟩)⟩,u,trivial⟩ ⟨none,0,0,none,0,0,none,0,0,cl,u,cn.s,(SliceAt.nil _ _),(SliceAt.nil _ _),(SliceAt.nil _ _)⟩
 refine wc_skip (qr (lv (rv_loadmS (ds:=[V3 A a b,V3 B c d,V3 C f i]) tf36 u m1 aJ u u) ?_))
 obtain⟨dz,cp,cq⟩:=ob bi
 refine lk co107 ((own_impl_cloneIndex F) aJ.enter0 (au.mono m.le) (aw.mono m.le) (bg.mono m.le) cp) ?_
 rintro dA dB ⟨ai,aj,ak,am,an,ao,ab,ac,ad,bM,psC,rfl,s,bN,bO,bP,hfC⟩
 have hS58q:SH _ _ _ _ _ [_,_,_,_]:=SH.call0 aJ s
 have cr:SH _ _ _ _ _ [_,_,_,_]:=SH.toLast (p:=[_]) (q:=[_,_]) hS58q
 refine al tf36 cr fun ap dC ct=>?_
 have cu:SH _ _ _ _ _ [obj ap [V3 none 0 0,V3 none 0 0,V3 none 0 0] 36,_,_,_,_]:=ct
 refine lw [V3 ai aj ak,V3 am an ao,V3 ab ac ad] tf36 cu fun dD bj=>(ns (wc_seq ?_))
 obtain⟨cv,cw,cx⟩:=ob cq
 refine wc_cutg (IV w K [] bM [(1,V3 D k l),(2,pt ah),(4,pt ay),(6,pt ap),(20,.bool cv)] [obj ah [V3 A a b,V3 B c d,V3 C f i] 36,obj ay [V3 none 0 0,V3 none 0 0,V3 none 0 0] 36,obj ap [V3 ai aj ak,V3 am an ao,V3 ab ac ad] 36,tail (V3 ab ac ad) 73 3,pack (deadsOf 3 psC)]) ?_ ?_
 ·refine wc_region (mv u (lv (rv_len underlying43 u (ax.mono (m.le.trans s.le))) (lv (rv_eql u u) (mv u (bt cw (fun O bk=>?_) (fun O bk=>?_))))))
  ·refine lu O (lu O (lu O (lv (p_t u O u) (wl_nil ?_))))
   cases oi bk
   exact qd ⟨bM,u,bj.f1.f1.f2.f3,kr⟩
  refine lg O (rv_move u) ?_
  obtain⟨dE,cy,cz⟩:=ob bk
  refine wl_call (wg u u O) u (rt_call (vs:=[V3 D k l]) co45 u) (ok_impl_DocsOk F bj.enter0 (ax.mono (m.le.trans s.le)) cy) ?_
  rintro dF dG ⟨cA,rfl,bQ⟩
  refine⟨_,u,?_⟩
  have cB:=(bj.c0 bQ).t5
  refine lg O (rv_not u) (lv (rv_pick_f u O u) (wl_nil ?_))
  cases oi cz
  exact qd ⟨cA,u,cB.f1.f1.f2.f3,bQ.le⟩
 rintro _ dH ⟨dI,rfl,aK,o⟩
 refine qe_seq (wcc cx u (fun cC bl=>?_) (fun cC bl=>?_))
 ·refine sr (lv (rv_loadmS (ds:=[V3 ai aj ak,V3 am an ao,V3 ab ac ad]) tf36 u m2 aK u u) (lw [V3 ai aj ak,V3 am an ao,V3 ab ac ad] tf36 aK.f1 fun dJ bR=>(lv (r_f u) (nq (rr ?_)))))
  cases oi bl
  have hS95q:SH _ _ _ _ _ [_,_]:=SH.sublist bR (.cons _ (.cons _ (.cons _ (.cons_cons _ (.cons_cons _ .slnil)))))
  obtain⟨KD,hlD,hsD,cD⟩:=SH.deadsSee (q:=[_]) hS95q (bP.mono o)
  rw [hfC] at hsD
  exact qe_ret (vs:=[_,_]) results54 ⟨⟨_,_,u,run_loadVar_at tf36 (cs:=[V3 ai aj ak,V3 am an ao,V3 ab ac ad]) (fun j c e=>by rw [Nat.zero_add,bR.mem_obj m0];exact e) (.inl ⟨u,u,u⟩)⟩,u,trivial⟩ ⟨ai,aj,ak,am,an,ao,ab,ac,ad,KD,u,cD,(bN.mono (o.trans hlD)),(bO.mono (o.trans hlD)),hsD⟩
 refine wc_skip (qr (mv u ?_))
 obtain⟨dK,cE,cF⟩:=ob bl
 refine lk co117 (ok_impl_idsOf F aK.enter0 (ax.mono ((m.le.trans s.le).trans o)) cE) ?_
 rintro dL dM ⟨dN,dO,dP,dQ,rfl,x,cG⟩
 have cH:=(aK.c0 x).t6
 obtain⟨dR,cI,cJ⟩:=ob cF
 have hS111x:SH _ _ _ _ _ [_,_,_,_,_,_]:=SH.fromLast (p:=[_]) (q:=[_,_,_,_]) cH.f3
 refine lk co113 ((own_impl_Index_drop F) hS111x.e2 (bN.mono (o.trans x.le)) (bO.mono (o.trans x.le)) (bP.mono (o.trans x.le)) hfC cG cI) ?_
 rintro dS dT ⟨az,aA,aB,aC,aD,aE,cK,cL,cM,bS,rfl,G,dU,bT,bU,bV⟩
 have hS129y:SH _ _ _ _ _ [_,_,_,_,_,_]:=SH.call (Lin:=[_,_]) hS111x G
 have cN:SH _ _ _ _ _ [_,_,_,_,_,_]:=SH.toLast (p:=[_]) (q:=[_,_,_,_]) hS129y
 refine ns ?_
 obtain⟨bm,cO,cP⟩:=ob cJ
 refine wc_cutg (fun E' w'=>∃U V W X Y aa R S T aq,E'=[(2,pt ah),(4,pt ay),(6,pt ap)]∧SH w K [] w' aq [obj ah [V3 A a b,V3 B c d,V3 C f i] 36,obj ay [V3 none 0 0,V3 none 0 0,V3 none 0 0] 36,obj ap [V3 U V W,V3 X Y aa,V3 R S T] 36,tail (V3 R S T) 73 3]∧KLe bS aq∧SliceAt tStr aq U V W bm.Conf.Stops∧SliceAt tGSyn aq X Y aa bm.Conf.Syns∧SliceAt tGLive aq R S T bm.Segs) ?_ ?_
 ·obtain⟨bW,bX,cQ⟩:=ob cO
  obtain⟨dV,bY,bZ⟩:=ob cQ
  have ar:=cN.drew
  refine wj0 (fun w'=>Holds bS w'∧HasObj ah [V3 A a b,V3 B c d,V3 C f i] w') (fun w'=>HasObj ap [V3 az aA aB,V3 aC aD aE,V3 cK cL cM] w') 11 [(1,9),(1,10),(1,11),(9,10),(9,11),(10,11)] mixed ⟨ar.hasK kr,ar.hasObj m2⟩ (fun _=>ar.hasObj (.head _)) (jv 0 u (rv_fieldAddr ff36_1 u) (jf 1 u (fun _ h=>rh_loadm1 tf34 u u h) (jv 2 u (rv_fieldAddr ff36_0 u) (jh 3 u (fun _ h=>rh_loadmS (ds:=[V3 A a b,V3 B c d]) tf33 u u u h.2) (jv 4 u (rv_move u) (j2 5 6 u u ?_ ?_))))))
  ·refine lk co21 (ok_impl_SegOf F ar.enter0 (SliceAt.mono ((((m.le.trans s.le).trans o).trans x.le).trans G.le) au) (SliceAt.mono ((((m.le.trans s.le).trans o).trans x.le).trans G.le) aw) (SliceAt.mono ((((m.le.trans s.le).trans o).trans x.le).trans G.le) ax) bX) ?_
   rintro dW dX ⟨aL,aM,aN,aO,aP,aQ,dY,rfl,H,cR,cS⟩
   have aR:=(ar.c0 H).t7
   refine jn ⟨aR.hasK H.le,aR.hasObj m3⟩ (fun _=>aR.hasObj (.tail _ (.head _))) (j1 6 u (b0 tInt underlying71 tf3 aR fun aS dZ ea I cT aT=>(jn ⟨aT.hasK (H.le.trans I),aT.hasObj m4⟩ (fun _=>aT.hasObj (.tail _ (.tail _ (.head _)))) (jv 7 u (rv_build (cs:=#[V3 aL aM aN,V3 aO aP aQ,V3 aS 0 0]) sp73 tf73 u (by kernel_rfl)) (j1 8 u (lb tGLive (.agg #[V3 aL aM aN,V3 aO aP aQ,V3 aS 0 0]) [V3 aL aM aN,V3 aO aP aQ,V3 aS 0 0] (GLive.mk bW ([]:List Int)) underlying34 tf73 ⟨aL,aM,aN,aO,aP,aQ,aS,0,0,u,(cR.mono I),(cS.mono I),cT⟩ aT fun eb ec ed ae cU aU=>(jn ⟨aU.hasK ((H.le.trans I).trans ae),aU.hasObj m5⟩ (fun _=>aU.hasObj (.tail _ (.tail _ (.tail _ (.head _))))) (j1 9 u ?_))))))))
   have cV:SH _ _ _ _ _ [_,_,_,_,_,_,_,_,_]:=SH.fromLast (p:=[]) (q:=[_,_,_,_,_,_,_,_]) aU
   refine lp underlying34 tf73 (bV.mono ((H.le.trans I).trans ae)) cU bY cV fun bn bo bp ee cW aF cX aV=>(jn ⟨aV.hasK (((H.le.trans I).trans ae).trans aF),aV.hasObj m6⟩ (fun _=>aV.hasObj (.tail _ (.tail _ (.tail _ (.tail _ (.head _)))))) (jv 10 u (rv_fieldAddr ff36_1 u) (j1 11 u (ls [V3 az aA aB,V3 aC aD aE,V3 bn bo bp] (V3 bn bo bp) tf34 aV.f4 fun ef bq=>(jn ⟨bq.hasK (((H.le.trans I).trans ae).trans aF),bq.hasObj m6⟩ (fun h=>nomatch h) (jd ?_))))))
   cases oi bZ
   exact qd ⟨az,aA,aB,aC,aD,aE,bn,bo,bp,cW,u,bq.f1.f1.f7.f7.s,(((H.le.trans I).trans ae).trans aF),(SliceAt.mono (((H.le.trans I).trans ae).trans aF) bT),(SliceAt.mono (((H.le.trans I).trans ae).trans aF) bU),cX⟩
  refine b0 tInt underlying71 tf3 ar fun aW eg eh y cY aG=>(jn ⟨aG.hasK y,aG.hasObj m3⟩ (fun _=>aG.hasObj (.tail _ (.head _))) (j1 5 u (lk co21 (ok_impl_SegOf F aG.enter0 (SliceAt.mono (((((m.le.trans s.le).trans o).trans x.le).trans G.le).trans y) au) (SliceAt.mono (((((m.le.trans s.le).trans o).trans x.le).trans G.le).trans y) aw) (SliceAt.mono (((((m.le.trans s.le).trans o).trans x.le).trans G.le).trans y) ax) bX) ?_)))
  rintro ei ej ⟨aX,aY,aZ,ba,bb,bc,ek,rfl,J,cZ,da⟩
  have bd:=(aG.c0 J).t8
  refine jn ⟨bd.hasK (y.trans J.le),bd.hasObj m4⟩ (fun _=>bd.hasObj (.tail _ (.tail _ (.head _)))) (jv 7 u (rv_build (cs:=#[V3 aX aY aZ,V3 ba bb bc,V3 aW 0 0]) sp73 tf73 u (by kernel_rfl)) (j1 8 u (lb tGLive (.agg #[V3 aX aY aZ,V3 ba bb bc,V3 aW 0 0]) [V3 aX aY aZ,V3 ba bb bc,V3 aW 0 0] (GLive.mk bW ([]:List Int)) underlying34 tf73 ⟨aX,aY,aZ,ba,bb,bc,aW,0,0,u,cZ,da,(cY.mono J.le)⟩ bd fun el em en af db be=>(jn ⟨be.hasK ((y.trans J.le).trans af),be.hasObj m5⟩ (fun _=>be.hasObj (.tail _ (.tail _ (.tail _ (.head _))))) (j1 9 u ?_)))))
  have dc:SH _ _ _ _ _ [_,_,_,_,_,_,_,_,_]:=SH.fromLast (p:=[]) (q:=[_,_,_,_,_,_,_,_]) be
  refine lp underlying34 tf73 (bV.mono ((y.trans J.le).trans af)) db bY dc fun br bs bu eo dd aH de bf=>(jn ⟨bf.hasK (((y.trans J.le).trans af).trans aH),bf.hasObj m6⟩ (fun _=>bf.hasObj (.tail _ (.tail _ (.tail _ (.tail _ (.head _)))))) (jv 10 u (rv_fieldAddr ff36_1 u) (j1 11 u (ls [V3 az aA aB,V3 aC aD aE,V3 br bs bu] (V3 br bs bu) tf34 bf.f4 fun ep bv=>(jn ⟨bv.hasK (((y.trans J.le).trans af).trans aH),bv.hasObj m6⟩ (fun h=>nomatch h) (jd ?_))))))
  cases oi bZ
  exact qd ⟨az,aA,aB,aC,aD,aE,br,bs,bu,dd,u,bv.f1.f1.f7.f7.s,(((y.trans J.le).trans af).trans aH),(SliceAt.mono (((y.trans J.le).trans af).trans aH) bT),(SliceAt.mono (((y.trans J.le).trans af).trans aH) bU),de⟩
 rintro _ eq ⟨U,V,W,X,Y,aa,R,S,T,aq,rfl,bz,bA,ca,cb,cc⟩
 refine qs (sr (lv (rv_loadmS (ds:=[V3 U V W,V3 X Y aa,V3 R S T]) tf36 u m2 bz u u) ?_))
 obtain⟨es,df,dg⟩:=ob cP
 refine lk co14 (ok_impl_IndexOk F bz.enter0 ca cb cc df) ?_
 rintro et eu ⟨dh,rfl,ag⟩
 have aI:=(bz.c0 ag).t4
 refine lv (rv_not u) (nq (wcc dg u (fun di bB=>?_) (fun di bB=>?_)))
 ·refine sr (lv (rv_loadmS (ds:=[V3 A a b,V3 B c d,V3 C f i]) tf36 u m0 aI u u) ?_)
  obtain⟨ev,dj,dk⟩:=ob bB
  refine lk co107 (ok_impl_cloneIndex F aI.enter0 (SliceAt.mono ((((((m.le.trans s.le).trans o).trans x.le).trans G.le).trans bA).trans ag.le) au) (SliceAt.mono ((((((m.le.trans s.le).trans o).trans x.le).trans G.le).trans bA).trans ag.le) aw) (SliceAt.mono ((((((m.le.trans s.le).trans o).trans x.le).trans G.le).trans bA).trans ag.le) bg) dj) ?_
  rintro ew ex ⟨bC,bD,bE,bF,bG,bH,bI,bJ,bK,dl,rfl,dm,dn,dp,dq⟩
  have dr:=(aI.c0 dm).t5
  refine lw [V3 bC bD bE,V3 bF bG bH,V3 bI bJ bK] tf36 dr.f2 fun eA cd=>(lv (r_f u) (nq (rr ?_)))
  cases oi dk
  exact qe_ret (vs:=[_,_]) results54 ⟨⟨_,_,u,run_loadVar_at tf36 (cs:=[V3 bC bD bE,V3 bF bG bH,V3 bI bJ bK]) (fun j c e=>by rw [Nat.zero_add,cd.mem_obj m0];exact e) (.inl ⟨u,u,u⟩)⟩,u,trivial⟩ ⟨bC,bD,bE,bF,bG,bH,bI,bJ,bK,dl,u,cd.s,dn,dp,dq⟩
 refine wc_skip (qr (lv (rv_loadmS (ds:=[V3 U V W,V3 X Y aa,V3 R S T]) tf36 u m2 aI u u) (lw [V3 U V W,V3 X Y aa,V3 R S T] tf36 aI.f1 fun eB ce=>(lv (r_t u) (nq (wc_ret ?_))))))
 cases oi bB
 exact qe_ret (vs:=[_,_]) results54 ⟨⟨_,_,u,run_loadVar_at tf36 (cs:=[V3 U V W,V3 X Y aa,V3 R S T]) (fun j c e=>by rw [Nat.zero_add,ce.mem_obj m0];exact e) (.inl ⟨u,u,u⟩)⟩,u,trivial⟩ ⟨U,V,W,X,Y,aa,R,S,T,dh,u,ce.s,(ca.mono ag.le),(cb.mono ag.le),(cc.mono ag.le)⟩

theorem ok_laws_FnIndexAdd {q0:List UInt8}{r:Bool}(hS:SH w K [] w K [])(bZ:SliceAt tU8 K A a b q0)(hm:M.laws_FnIndexAdd F q0=some r):
  Calls prog 10 #[V3 A a b] w (R_b w K r):=by
 rw [M.laws_FnIndexAdd] at hm
 refine ci func10 u ntmps10 (sr (lv (r_f u) (nsr (mv u (lv (rv_len underlying69 u bZ) (lv (rv_gtr u u) (nq (wc_cond u (fun bg=>?_) (fun bg=>?_)))))))))
 ·have h6:=cond_t bg hm
  refine sr (lv (r_t u) (nq (rr ?_)))
  cases oi h6
  exact ey results10 ⟨K,u,hS⟩
 have h6:=cond_f bg hm
 refine wc_skip (qr (mv u ?_))
 obtain⟨r7,cJ,h9⟩:=ob h6
 refine lk co53 (ok_spec_DrawIndexAdd F hS.enter0 bZ cJ) ?_
 rintro gO gP ⟨G,H,I,J,O,R,S,T,U,ax,ay,az,gQ,rfl,cL,X,Y,aa,af⟩
 have cM:=(hS.c0 cL).t2
 refine mv u (lv (rv_extract u u) (lv (rv_extract u u) (al tf36 cM fun bi gR cN=>?_)))
 have cO:SH _ _ _ _ _ [obj bi [V3 none 0 0,V3 none 0 0,V3 none 0 0] 36,_,_]:=cN
 refine lw [V3 G H I,V3 J O R,V3 S T U] tf36 cO fun gS bj=>(av u (nr (lv (rv_loadmS (ds:=[V3 G H I,V3 J O R,V3 S T U]) tf36 u m0 bj u u) (mv u ?_))))
 obtain⟨cP,cQ,cR⟩:=ob h9
 refine lk co54 (ok_impl_IndexAdd F bj.enter0 X Y aa af cQ) ?_
 rintro gT gU ⟨m,o,q,s,x,y,B,C,D,gV,rfl,f,aA,aB,aC⟩
 have cS:=(bj.c0 f).t4
 refine mv u (lv (rv_extract u u) (lv (rv_extract u u) (al tf36 cS fun k gW cT=>?_)))
 have cU:SH _ _ _ _ _ [obj k [V3 none 0 0,V3 none 0 0,V3 none 0 0] 36,_,_,_,_]:=cT
 refine lw [V3 m o q,V3 s x y,V3 B C D] tf36 cU fun gX bk=>(av u (nr (lv (rv_loadmS (ds:=[V3 G H I,V3 J O R,V3 S T U]) tf36 u m2 bk u u) (mv u ?_))))
 obtain⟨cV,cW,cX⟩:=ob cR
 refine lk co55 (ok_spec_IndexAdd F bk.enter0 (X.mono f.le) (Y.mono f.le) (aa.mono f.le) (af.mono f.le) cW) ?_
 rintro gY gZ ⟨aN,aO,aP,aQ,aR,aS,aT,aU,aV,cY,rfl,c,ca,cb,cc⟩
 have cZ:=(bk.c0 c).t6
 refine mv u (lv (rv_extract u u) (lv (rv_extract u u) (al tf36 cZ fun bl hb da=>?_)))
 have db:SH _ _ _ _ _ [obj bl [V3 none 0 0,V3 none 0 0,V3 none 0 0] 36,_,_,_,_,_,_]:=da
 refine lw [V3 aN aO aP,V3 aQ aR aS,V3 aT aU aV] tf36 db fun hc dc=>(av u (ns (wc_seq ?_)))
 obtain⟨dd,de,df⟩:=ob cX
 refine wc_cutg (IV w K [] cY [(3,pt bi),(4,V3 ax ay az),(5,pt k),(6,.bool cP.2),(7,pt bl),(8,.bool cV.2),(55,.bool dd)] [obj bi [V3 G H I,V3 J O R,V3 S T U] 36,obj k [V3 m o q,V3 s x y,V3 B C D] 36,obj bl [V3 aN aO aP,V3 aQ aR aS,V3 aT aU aV] 36]) ?_ ?_
 ·refine wc_quiet mixed (by kernel_rfl) dc (km u (km u (kv (rv_boolne underlying4 u u) (km u (bt de (fun V bm=>?_) (fun V bm=>?_))))))
  ·refine kn V (kn V (kn V (kn V (kv (p_t u V u) (km u ?_)))))
   iterate 5 refine qv u u u u ?_
   refine kv (p_t u u u) (km u (qv u u u u (qv u u u u (qv u u u u (kv (p_t u u u) (wq_nil ?_))))))
   rintro hd ⟨dg,dh,di⟩
   cases oi bm
   exact qd ⟨dg,u,dh.f2.f4.s,di⟩
  refine kgh V (rq_loadmS (ds:=[V3 m o q,V3 s x y,V3 B C D]) tf36 u m2 u u) (kgh V (rq_loadmS (ds:=[V3 aN aO aP,V3 aQ aR aS,V3 aT aU aV]) tf36 u m0 u u) ?_)
  obtain⟨he,dj,dk⟩:=ob bm
  refine kcg V co49 (fun _ _ dl ak=>(ok_laws_foIndex F) dl.enter0 (aA.mono (c.le.trans ak)) (aB.mono (c.le.trans ak)) (aC.mono (c.le.trans ak)) (ca.mono ak) (cb.mono ak) (cc.mono ak) dj) (kg V (rv_not u) (kv (rv_pick_f u V u) (km u (bt dk (fun ab bn=>?_) (fun ab bn=>?_)))))
  ·iterate 5 refine kn ab ?_
   refine kv (p_t u ab u) (km u (qv u u u u (qv u u u u (qv u u u u (kv (p_t u u u) (wq_nil ?_))))))
   rintro hf ⟨dm,dn,dp⟩
   cases oi bn
   exact qd ⟨dm,u,dn.f2.f4.s,dp⟩
  refine kgh ab (rq_loadmS (ds:=[V3 G H I,V3 J O R,V3 S T U]) tf36 u m4 u u) ?_
  obtain⟨hg,dq,dr⟩:=ob bn
  refine kcg ab co14 (fun _ _ dt bo=>(ok_impl_IndexOk F) dt.enter0 (X.mono ((f.le.trans c.le).trans bo)) (Y.mono ((f.le.trans c.le).trans bo)) (aa.mono ((f.le.trans c.le).trans bo)) dq) (kgh ab (rq_loadmS (ds:=[V3 G H I,V3 J O R,V3 S T U]) tf36 u m4 u u) ?_)
  obtain⟨hh,du,dv⟩:=ob dr
  refine kcg ab co12 (fun _ _ dw bp=>(ok_spec_IndexOk F) dw.enter0 (X.mono ((f.le.trans c.le).trans bp)) (Y.mono ((f.le.trans c.le).trans bp)) (aa.mono ((f.le.trans c.le).trans bp)) du) (kg ab (rv_boolne underlying4 u u) (kv (rv_pick_f u ab u) (km u (bt dv (fun ac bq=>?_) (fun ac bq=>?_)))))
  ·refine kn ac (kn ac (kn ac (kv (p_t u ac u) (wq_nil ?_))))
   rintro hi ⟨dx,dy,dz⟩
   cases oi bq
   exact qd ⟨dx,u,dy.f2.f4.s,dz⟩
  refine kgh ac (rq_loadmS (ds:=[V3 G H I,V3 J O R,V3 S T U]) tf36 u m4 u u) ?_
  obtain⟨hj,dA,dB⟩:=ob bq
  refine kcg ac co14 (fun _ _ dC br=>(ok_impl_IndexOk F) dC.enter0 (X.mono ((f.le.trans c.le).trans br)) (Y.mono ((f.le.trans c.le).trans br)) (aa.mono ((f.le.trans c.le).trans br)) dA) (kg ac (rv_not u) (kv (rv_pick_f u ac u) (wq_nil ?_)))
  rintro hk ⟨dD,dE,dF⟩
  cases oi dB
  exact qd ⟨dD,u,dE.f2.f4.s,dF⟩
 rintro _ hn ⟨dG,rfl,ag,d⟩
 refine qe_seq (wcc df u (fun dH bs=>?_) (fun dH bs=>?_))
 ·refine wc_seq ?_
  obtain⟨dI,dJ,dK⟩:=ob bs
  refine wc_cutg (IV w K [] dG [(2,.bool dI)] []) ?_ ?_
  ·refine wc_quiet mixed (by kernel_rfl) ag (km u (km u (kv (rv_booleq underlying4 u u) (km u (bt dJ (fun ad bu=>?_) (fun ad bu=>?_))))))
   ·refine kgh ad (rq_loadmS (ds:=[V3 m o q,V3 s x y,V3 B C D]) tf36 u m1 u u) (kgh ad (rq_loadmS (ds:=[V3 aN aO aP,V3 aQ aR aS,V3 aT aU aV]) tf36 u m2 u u) ?_)
    obtain⟨ho,dL,dM⟩:=ob bu
    refine kcg ad co49 (fun _ _ dN am=>(ok_laws_foIndex F) dN.enter0 (aA.mono ((c.le.trans d).trans am)) (aB.mono ((c.le.trans d).trans am)) (aC.mono ((c.le.trans d).trans am)) (ca.mono (d.trans am)) (cb.mono (d.trans am)) (cc.mono (d.trans am)) dL) (kv (rv_pick_t u ad u) (km u (bt dM (fun ae bv=>?_) (fun ae bv=>?_))))
    ·refine kgh ae (rq_loadmS (ds:=[V3 G H I,V3 J O R,V3 S T U]) tf36 u m0 u u) ?_
     obtain⟨hp,dO,dP⟩:=ob bv
     refine kcg ae co14 (fun _ _ dQ bx=>(ok_impl_IndexOk F) dQ.enter0 (SliceAt.mono (((f.le.trans c.le).trans d).trans bx) X) (SliceAt.mono (((f.le.trans c.le).trans d).trans bx) Y) (SliceAt.mono (((f.le.trans c.le).trans d).trans bx) aa) dO) (kgh ae (rq_loadmS (ds:=[V3 G H I,V3 J O R,V3 S T U]) tf36 u m0 u u) ?_)
     obtain⟨hq,dR,dS⟩:=ob dP
     refine kcg ae co12 (fun _ _ dT bz=>(ok_spec_IndexOk F) dT.enter0 (SliceAt.mono (((f.le.trans c.le).trans d).trans bz) X) (SliceAt.mono (((f.le.trans c.le).trans d).trans bz) Y) (SliceAt.mono (((f.le.trans c.le).trans d).trans bz) aa) dR) (kg ae (rv_booleq underlying4 u u) (kv (rv_pick_t u ae u) (kv (rv_assign u) (wq_nil ?_))))
     rintro hr ⟨dU,dV,dW⟩
     cases oi dS
     exact qd ⟨dU,u,dV.s,dW⟩
    iterate 5 refine kn ae ?_
    refine kv (p_f u ae u) (kv (rv_assign u) (wq_nil ?_))
    rintro ht ⟨dX,dY,dZ⟩
    cases oi bv
    exact qd ⟨dX,u,dY.s,dZ⟩
   refine kn ad (kn ad (kn ad (kv (p_f u ad u) (km u ?_))))
   iterate 5 refine qv u u u u ?_
   refine kv (p_f u u u) (kv (rv_assign u) (wq_nil ?_))
   rintro hu ⟨ea,eb,ec⟩
   cases oi bu
   exact qd ⟨ea,u,eb.s,ec⟩
  rintro _ hv ⟨ed,rfl,ee,hw⟩
  refine qe_seq (rr ?_)
  cases oi dK
  exact ey results10 ⟨ed,u,ee⟩
 refine wc_skip (qs (sr (mv u (lv (rv_not u) (nq (wcc bs u (fun ef bA=>?_) (fun ef bA=>?_)))))))
 ·refine sr (lv (rv_loadmS (ds:=[V3 m o q,V3 s x y,V3 B C D]) tf36 u m1 ag u u) (lv (rv_loadmS (ds:=[V3 G H I,V3 J O R,V3 S T U]) tf36 u m0 ag u u) ?_))
  obtain⟨hx,eg,eh⟩:=ob bA
  refine lk co49 (ok_laws_foIndex F ag.enter0 (aA.mono (c.le.trans d)) (aB.mono (c.le.trans d)) (aC.mono (c.le.trans d)) (X.mono ((f.le.trans c.le).trans d)) (Y.mono ((f.le.trans c.le).trans d)) (aa.mono ((f.le.trans c.le).trans d)) eg) ?_
  rintro hy hz ⟨ei,rfl,ej⟩
  have ek:=(ag.c0 ej).t3
  refine av u (nq (rr ?_))
  cases oi eh
  exact ey results10 ⟨ei,u,ek.s⟩
 refine wc_skip (qr (lv (rv_loadmS (ds:=[V3 G H I,V3 J O R,V3 S T U]) tf36 u m0 ag u u) ?_))
 obtain⟨hA,el,em⟩:=ob bA
 refine lk co37 (ok_impl_IndexDocs F ag.enter0 (X.mono ((f.le.trans c.le).trans d)) (Y.mono ((f.le.trans c.le).trans d)) (aa.mono ((f.le.trans c.le).trans d)) el) ?_
 rintro hB hC ⟨cd,ce,cf,hD,rfl,l,aW⟩
 have bB:=(ag.c0 l).t4
 refine av u (nr (lv (rv_loadmS (ds:=[V3 m o q,V3 s x y,V3 B C D]) tf36 u m2 bB u u) ?_))
 obtain⟨hE,en,eo⟩:=ob em
 refine lk co37 (ok_impl_IndexDocs F bB.enter0 (aA.mono ((c.le.trans d).trans l.le)) (aB.mono ((c.le.trans d).trans l.le)) (aC.mono ((c.le.trans d).trans l.le)) en) ?_
 rintro hF hG ⟨aD,aE,aF,bC,rfl,i,bD⟩
 have ep:=(bB.c0 i).t5
 refine av u (nr (mv u (lv (rv_len underlying43 u (SliceAt.mono ((((f.le.trans c.le).trans d).trans l.le).trans i.le) af)) (av u (nsr (lv (r_0 u) (nq ?_)))))))
 obtain⟨eq,es,aX⟩:=ob eo
 refine wc_cutg (fun E' w'=>∃an ao,eq= .inl an∧E'=[(4,V3 ax ay az),(5,pt k),(10,V3 aD aE aF),(11,V6 an)]∧SH w K [] w' ao [obj k [V3 m o q,V3 s x y,V3 B C D] 36]∧KLe bC ao∧rng64 an) ?_ ?_
 ·refine wc_block ?_
  obtain⟨hH,et,cg⟩:=ob es
  have eu:=ep.sb (sd (sd (sd (sk (sd sz)))))
  refine qw (fun (ap:Int×Int)=>IW w K [] bC [(4,V3 ax ay az),(5,pt k),(9,V3 cd ce cf),(10,V3 aD aE aF),(11,V6 ap.1),(12,V6 ap.2)] [obj k [V3 m o q,V3 s x y,V3 B C D] 36] (rng64 ap.1∧rng64 ap.2)) et ⟨bC,u,eu,kr,(rng_nat (SliceAt.max (SliceAt.mono ((((f.le.trans c.le).trans d).trans l.le).trans i.le) af))),d_0⟩ ?_
  rintro ap _ hI hJ ev ch ⟨ew,rfl,aY,ah,cj,hK⟩
  refine wc_seq (sr (mv u (mv u (lv (rv_len underlying43 u (aW.mono (i.le.trans ah))) (lv (rv_lss u u) (nq (wcc ev u (fun ex bE=>?_) (fun ex bE=>?_))))))))
  ·refine wc_skip (qs (wc_block (sr (mv u (mv u (mv u ?_))))))
   obtain⟨eA,eB,eC⟩:=ob bE
   refine li underlying43 tf77 (aW.mono (i.le.trans ah)) eB fun eD eE hL eF eG=>?_
   obtain⟨eH,eI,eJ,eK,eL,eM,rfl,eN,hM,hN⟩:=eF
   have eO:AtK _ eD eE [V6 eA.Id,V3 eH eI eJ,V3 eK eL eM]:=eG
   refine fa ff77_0 u (lv (rv_load1 tf3 u aY (eO 0 _ u)) ?_)
   obtain⟨eP,eQ,eR⟩:=ob eC
   refine lk co44 (ok_laws_foFind F aY.enter0 (SliceAt.mono (((((f.le.trans c.le).trans d).trans l.le).trans i.le).trans ah) af) eN eQ) ?_
   rintro hO hP ⟨ck,cl,cm,cn,cp,cq,bF,rfl,aG,eS,eT,eU⟩
   have eV:=(aY.c0 aG).t1
   refine al tf77 eV fun aZ hQ eW=>?_
   have eX:SH _ _ _ _ _ [obj aZ [V6 0,V3 none 0 0,V3 none 0 0] 77,_]:=eW
   refine lw [V6 eP.Id,V3 ck cl cm,V3 cn cp cq] tf77 eX fun hR ba=>(nsr (fl ff77_0 u tf3 m0 ba u (lv (rv_eql u u) (nq ?_))))
   obtain⟨ai,eY,eZ⟩:=ob eR
   refine wc_cutg (fun E' w'=>∃aH aI aJ aK aL aM aq,E'=[(4,V3 ax ay az),(5,pt k),(9,V3 cd ce cf),(10,V3 aD aE aF),(11,V6 ai.1),(12,V6 ap.2),(13,pt aZ)]∧SH w K [] w' aq [obj k [V3 m o q,V3 s x y,V3 B C D] 36,obj aZ [V6 ai.2.Id,V3 aH aI aJ,V3 aK aL aM] 77]∧KLe bF aq∧rng64 ai.1∧rng64 ai.2.Id∧SliceAt tGField aq aH aI aJ ai.2.Fields∧SliceAt tGAttr aq aK aL aM ai.2.Nums) ?_ ?_
   ·refine wcc eY u (fun fb bG=>?_) (fun fb bG=>?_)
    ·refine sr (mv u (lv (rv_add u u) (av u (nq (wc_region (mv u (mv u ?_)))))))
     obtain⟨cr,fc,fd⟩:=ob bG
     refine li underlying43 tf77 (aW.mono ((i.le.trans ah).trans aG.le)) fc fun fe fg hT fh fi=>?_
     obtain⟨bH,bI,bJ,bK,bL,bM,rfl,fj,fk,fm⟩:=fh
     have fn:AtK _ fe fg [V6 cr.Id,V3 bH bI bJ,V3 bK bL bM]:=fi
     refine lv (rv_loadS tf77 u ba fn u) (lw [V6 cr.Id,V3 bH bI bJ,V3 bK bL bM] tf77 ba fun hU fo=>(wl_nil ?_))
     cases oi fd
     exact qd ⟨bH,bI,bJ,bK,bL,bM,bF,u,fo.f1,kr,(w64_rng _),fj,fk,fm⟩
    refine wc_skip ?_
    cases oi bG
    exact qd ⟨ck,cl,cm,cn,cp,cq,bF,u,ba.f1,kr,cj,eS,eT,eU⟩
   rintro _ hV ⟨aH,aI,aJ,aK,aL,aM,aq,rfl,fp,bN,fq,fr,fs,ft⟩
   refine qs ?_
   have bb:=fp.drew
   refine j_0 (fun w'=>Holds aq w'∧HasObj aZ [V6 ai.2.Id,V3 aH aI aJ,V3 aK aL aM] w') 10 [] mixed ⟨bb.hasK kr,bb.hasObj m1⟩ (jv 0 u (rv_move u) (jv 1 u (rv_move u) (jv 2 u (rv_move u) ?_)))
   obtain⟨fu,fv,fw⟩:=ob eZ
   refine ji 3 u underlying43 tf77 (SliceAt.mono (((i.le.trans ah).trans aG.le).trans bN) aW) fv fun fx fy hW fz fA=>?_
   obtain⟨fB,fC,fD,fE,fF,fG,rfl,fH,hX,hY⟩:=fz
   have fI:AtK _ fx fy [V6 fu.Id,V3 fB fC fD,V3 fE fF fG]:=fA
   refine jv 4 u (rv_fieldAddr ff77_0 u) (jh 5 u (fun _ h=>rh_load1 tf3 u (fI 0 _ u) h.1) (jh 7 u (fun _ h=>rh_loadmS (ds:=[V6 ai.2.Id,V3 aH aI aJ,V3 aK aL aM]) tf77 u u u h.2) (j1 6 u ?_)))
   obtain⟨hZ,fJ,fK⟩:=ob fw
   refine lk co44 (ok_laws_foFind F bb.enter0 (bD.mono ((ah.trans aG.le).trans bN)) fH fJ) ?_
   rintro ia ib ⟨ic,ie,ig,ih,ii,ij,ik,rfl,ar,fL,fM,fN⟩
   have bc:=(bb.c0 ar).t2
   refine j_o ⟨bc.hasK ar.le,bc.hasObj m1⟩ (j1 8 u ?_)
   obtain⟨il,fO,fP⟩:=ob fK
   refine lk co43 (ok_laws_foDoc F bc.enter0 fL fM fN fr (fs.mono ar.le) (ft.mono ar.le) fO) ?_
   rintro im io ⟨ct,rfl,bO⟩
   have bd:=(bc.c0 bO).t2
   refine j_o ⟨bd.hasK (ar.le.trans bO.le),bd.hasObj m1⟩ (jv 9 u (rv_not u) (jd (qe_seq (wcc fP u (fun fQ bP=>?_) (fun fQ bP=>?_)))))
   ·refine sr (lv (r_f u) (nq (wc_ret (qe_block_ret (qe_then_ret (qe_then_ret ?_))))))
    cases oi bP
    cases ch _ u
    refine qe_block_ret (qe_then_ret ?_)
    cases oi cg
    refine qe_then_ret ?_
    cases oi aX
    exact ey results10 ⟨ct,u,bd.s⟩
   refine wc_skip (qe_block (qe_seq (wc_region (mv u (lv (rv_add u u) (av u (wl_nil ?_)))))))
   cases oi bP
   exact qd ⟨_,u,ct,u,bd.s,((((ah.trans aG.le).trans bN).trans ar.le).trans bO.le),fq,(w64_rng _)⟩
  refine wc_exit (qe_then_exit (qe_then_exit ?_))
  cases oi bE
  cases ch _ u
  refine qe_block_eq ?_
  cases oi cg
  exact qd ⟨_,ew,u,u,aY,ah,cj⟩
 rintro _ ip ⟨an,ao,rfl,rfl,fR,aj,iq⟩
 have aX:=elim_l aX
 refine qs (sr (lv (r_0 u) (nq ?_)))
 obtain⟨fS,fT,be⟩:=ob aX
 refine wc_cutg (IE fS w K [] ao [(5,pt k),(10,V3 aD aE aF),(11,V6 an)] [obj k [V3 m o q,V3 s x y,V3 B C D] 36]) ?_ ?_
 ·refine wc_block ?_
  obtain⟨ir,fU,cu⟩:=ob fT
  refine qw (fun (bQ:Int)=>IW w K [] ao [(4,V3 ax ay az),(5,pt k),(10,V3 aD aE aF),(11,V6 an),(14,V6 bQ)] [obj k [V3 m o q,V3 s x y,V3 B C D] 36] (rng64 bQ)) fU ⟨ao,u,fR,kr,d_0⟩ ?_
  rintro bQ _ it iu fV cv ⟨cw,rfl,cx,au,iv⟩
  refine wc_seq (sr (mv u (mv u (lv (rv_len underlying43 u (SliceAt.mono ((((((f.le.trans c.le).trans d).trans l.le).trans i.le).trans aj).trans au) af)) (lv (rv_lss u u) (nq (wcc fV u (fun fW bR=>?_) (fun fW bR=>?_))))))))
  ·refine wc_skip (qs (wc_block (wc_seq ?_)))
   have bS:=cx.drew
   refine wj0 (fun w'=>Holds cw w') (fun w'=>True) 13 [] mixed (bS.hasK kr) (fun _=>trivial) (jv 0 u (rv_move u) (jv 1 u (rv_move u) (jv 2 u (rv_move u) ?_)))
   obtain⟨fX,fY,fZ⟩:=ob bR
   refine ji 3 u underlying43 tf77 (SliceAt.mono ((((((f.le.trans c.le).trans d).trans l.le).trans i.le).trans aj).trans au) af) fY fun ga gb iw gc gd=>?_
   obtain⟨ge,gg,gj,gk,gl,gm,rfl,go,ix,iy⟩:=gc
   have gp:AtK _ ga gb [V6 fX.Id,V3 ge gg gj,V3 gk gl gm]:=gd
   refine jv 4 u (rv_fieldAddr ff77_0 u) (jh 5 u (fun _ h=>rh_load1 tf3 u (gp 0 _ u) h) (jv 7 u (rv_move u) (jv 8 u (rv_move u) ?_)))
   obtain⟨cy,gq,gr⟩:=ob fZ
   refine ji 9 u underlying43 tf77 (SliceAt.mono ((((((f.le.trans c.le).trans d).trans l.le).trans i.le).trans aj).trans au) af) gq fun gv gw iz gx gy=>?_
   obtain⟨cz,cA,cB,cC,cD,cE,rfl,gz,gA,gB⟩:=gx
   have gC:AtK _ gv gw [V6 cy.Id,V3 cz cA cB,V3 cC cD cE]:=gy
   refine jh 10 u (fun _ h=>rh_loadS (cs:=[V6 cy.Id,V3 cz cA cB,V3 cC cD cE]) tf77 u gC u h) (j1 6 u ?_)
   obtain⟨iA,gD,gE⟩:=ob gr
   refine lk co44 (ok_laws_foFind F bS.enter0 (bD.mono (aj.trans au)) go gD) ?_
   rintro iB iC ⟨iD,iE,iF,iG,iH,iI,iJ,rfl,aw,gF,gG,gH⟩
   have bT:=(bS.c0 aw).t1
   refine jn (bT.hasK aw.le) (fun _=>trivial) (j1 11 u ?_)
   obtain⟨iK,gI,gJ⟩:=ob gE
   refine lk co43 (ok_laws_foDoc F bT.enter0 gF gG gH gz (gA.mono aw.le) (gB.mono aw.le) gI) ?_
   rintro iL iM ⟨cF,rfl,bU⟩
   have bV:=(bT.c0 bU).t1
   refine jn (bV.hasK (aw.le.trans bU.le)) (fun _=>trivial) (jv 12 u (rv_not u) (jd (qe_seq (wcc gJ u (fun gK bW=>?_) (fun gK bW=>?_)))))
   ·refine sr (lv (r_f u) (nq (wc_ret (qe_block_ret (qe_then_ret (qe_then_ret ?_))))))
    cases oi bW
    cases cv _ u
    refine qe_block_ret (qe_then_ret ?_)
    cases oi cu
    refine qe_then_ret ?_
    cases oi be
    exact ey results10 ⟨cF,u,bV.s⟩
   refine wc_skip (qe_block (qe_seq (wc_region (mv u (lv (rv_add u u) (av u (wl_nil ?_)))))))
   cases oi bW
   exact qd ⟨_,u,cF,u,bV,((au.trans aw.le).trans bU.le),(w64_rng _)⟩
  refine wc_exit (qe_then_exit (qe_then_exit ?_))
  cases oi bR
  cases cv _ u
  refine qe_block_eq ?_
  cases oi cu
  exact qd ⟨_,cw,u,u,cx,au⟩
 rintro _ iN ⟨iO,iP,rfl,rfl,bX,bf⟩
 have be:=elim_l be
 refine qr (lv (rv_loadmS (ds:=[V3 m o q,V3 s x y,V3 B C D]) tf36 u m0 bX u u) ?_)
 obtain⟨iQ,gL,gM⟩:=ob be
 refine lk co14 (ok_impl_IndexOk F bX.enter0 (SliceAt.mono (((((c.le.trans d).trans l.le).trans i.le).trans aj).trans bf) aA) (SliceAt.mono (((((c.le.trans d).trans l.le).trans i.le).trans aj).trans bf) aB) (SliceAt.mono (((((c.le.trans d).trans l.le).trans i.le).trans aj).trans bf) aC) gL) ?_
 rintro iR iS ⟨cG,rfl,cH⟩
 have cI:=(bX.c0 cH).t1
 refine mv u (bt gM (fun W bY=>?_) (fun W bY=>?_))
 ·refine lg W (rv_move u) (lg W (rv_len underlying43 u (bD.mono ((aj.trans bf).trans cH.le))) (lg W (rv_move u) (lg W (rv_eql u u) (lv (rv_pick_t u W u) (av u (nq (wc_ret ?_)))))))
  cases oi bY
  exact ey results10 ⟨cG,u,cI.s⟩
 refine lu W (lu W (lu W (lu W (lv (p_f u W u) (av u (nq (wc_ret ?_)))))))
 cases oi bY
 exact ey results10 ⟨cG,u,cI.s⟩
end Go.Proofs.YtpjefkdclnmlfaaGreat
