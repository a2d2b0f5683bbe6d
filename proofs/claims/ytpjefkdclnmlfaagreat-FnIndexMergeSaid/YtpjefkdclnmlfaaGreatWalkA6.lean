/-
 Walks of the functions. Printed by gen.py.
-/
import Derived.Test.YtpjefkdclnmlfaaGreatLawDocsT
import Derived.Test.YtpjefkdclnmlfaaGreatCoreQp
import Derived.Test.YtpjefkdclnmlfaaGreatWalkA0
import Derived.Test.YtpjefkdclnmlfaaGreatWalkA1
import Derived.Test.YtpjefkdclnmlfaaGreatWalkA2
import Derived.Test.YtpjefkdclnmlfaaGreatWalkA3
import Derived.Test.YtpjefkdclnmlfaaGreatWalkA5
set_option linter.unusedVariables false
set_option linter.unusedSectionVars false
set_option maxRecDepth 100000
namespace Go.Proofs.YtpjefkdclnmlfaaGreat
set_option maxHeartbeats 4000000
open Go Go.Fk Go.RowKit Tryz
variable (F:Nat){w:World}{K:KMap}{Z:List Nat}{g1 g2 g3:Nat}{A B C D G H I J O R S T:Option Addr}{a b c d f i k l m n o p q s v x y aa ab ac ad ae af ag:Nat}
variable [dr:Dr]

theorem ok_spec_l30Doc {q0:GL30Rd}{q1:Int}{r:GDoc×GL30Rd}(hS:SH w K Z w K [obj g1 [V3 A a b,V6 q0.p_] 208])(bW:SliceAt tU8 K A a b q0.b_)(bX:rng64 q0.p_)(bo:rng64 q1)(hm:M.spec_l30Doc F q0 q1=some r):
  Calls prog 225 #[.pointer (some ⟨g1,0,none⟩),V6 q1] w fun e w'=>∃a_2 n_3 c_4 a_6 n_7 c_8 a_10 n_11 c_12 K',e= .returned (.agg #[V6 r.1.Id,V3 a_2 n_3 c_4,V3 a_6 n_7 c_8])∧SH w K Z w' K' [tail (V3 a_2 n_3 c_4) 108 2,tail (V3 a_6 n_7 c_8) 142 2,obj g1 [V3 a_10 n_11 c_12,V6 r.2.p_] 208]∧rng64 r.1.Id∧SliceAt tGField K' a_2 n_3 c_4 r.1.Fields∧SliceAt tGAttr K' a_6 n_7 c_8 r.1.Nums∧SliceAt tU8 K' a_10 n_11 c_12 r.2.b_∧rng64 r.2.p_:=by
 rw [M.spec_l30Doc] at hm
 refine ci func225 u ntmps225 (sr (al tf77 hS fun I w9 bY=>?_))
 have bZ:SH _ _ _ _ _ [obj I [V6 0,V3 none 0 0,V3 none 0 0] 77,_]:=bY
 refine nr (mv u (lv (rv_build (cs:=#[V6 q1,V3 none 0 0,V3 none 0 0]) sp77 tf77 u (by kernel_rfl)) (al tf77 bZ fun k dX ca=>?_)))
 have cb:SH _ _ _ _ _ [obj k [V6 0,V3 none 0 0,V3 none 0 0] 77,_,_]:=ca
 refine lw [V6 q1,V3 none 0 0,V3 none 0 0] tf77 cb fun dY cc=>(nsr (mv u ?_))
 obtain⟨dZ,cd,ce⟩:=ob hm
 have bp:=cc.f2
 refine lk co106 (ok_spec_l30Rd_pick F bp.e1 bW bX (by decide :rng64 6) cd) ?_
 rintro ea eb ⟨cf,cg,ch,aB,rfl,cj,ec,bq,br⟩
 have bs:=(bp.c1 cj).t3
 refine lv (rv_gtr u u) (nq ?_)
 obtain⟨l,ck,cl⟩:=ob ce
 refine wc_cutg (fun E' w'=>∃aC aD aE S T U o q s V,E'=[(0,pt g1),(4,pt I),(5,pt k)]∧SH w K Z w' V [obj g1 [V3 aC aD aE,V6 l.1.p_] 208,obj I [V6 0,V3 none 0 0,V3 none 0 0] 77,obj k [V6 l.2.Id,V3 S T U,V3 o q s] 77,tail (V3 S T U) 108 2,tail (V3 o q s) 142 2]∧KLe aB V∧SliceAt tU8 V aC aD aE l.1.b_∧rng64 l.1.p_∧rng64 l.2.Id∧SliceAt tGField V S T U l.2.Fields∧SliceAt tGAttr V o q s l.2.Nums) ?_ ?_
 ·refine wcc ck u (fun cm aF=>?_) (fun cm aF=>?_)
  ·have ao:=bs.drew
   refine wh1 (fun w'=>Holds aB w') (fun w'=>HasObj k [V6 q1,V3 none 0 0,V3 none 0 0] w') 8 [(1,6),(1,7),(1,8),(6,7),(6,8),(7,8)] mixed (ao.hasK kr) (fun _=>ao.hasObj (.tail _ (.head _))) (gt (rv_fieldAddr ff77_1 u) (gf (fun _ h=>rh_loadm1 tf74 u u h) (gt (rv_move u) (gn ?_))))
   obtain⟨ap,cn,cp⟩:=ob aF
   refine lk co256 (ok_spec_l30Text F ao.e1 bq br cn) ?_
   rintro ed ee ⟨cq,cr,ct,ef,rfl,W,cu,cv,cw⟩
   have aG:=(ao.c1 W).t3
   refine wl_nil (qh (aG.hasK W.le) (fun _=>aG.hasObj (.tail _ (.head _))) (gt (rv_build (cs:=#[sv [98,111,100,121],sv ap.1]) sp108 tf108 u (by kernel_rfl)) (gn (lb tGField (.agg #[sv [98,111,100,121],sv ap.1]) [sv [98,111,100,121],sv ap.1] (GField.mk ([98,111,100,121]:Str) ap.1) underlying74 tf108 ⟨u,(by decide :([98,111,100,121]:Str).length≤maxLen),cu⟩ aG fun eg eh ei ae cx aH=>(wl_nil (qh (aH.hasK (W.le.trans ae)) (fun _=>aH.hasObj (.tail _ (.tail _ (.head _)))) (gn ?_)))))))
   have cy:=aH.nil 108 2
   obtain⟨ej,cz,cA⟩:=ob cp
   refine lp underlying74 tf108 (SliceAt.nil _ _) cx cz cy fun aI aJ aK ek cB aq cC aL=>(wl_nil (qh (aL.hasK ((W.le.trans ae).trans aq)) (fun _=>aL.hasObj (.tail _ (.tail _ (.tail _ (.head _))))) (gt (rv_fieldAddr ff77_1 u) (gn (ls [V6 q1,V3 aI aJ aK,V3 none 0 0] (V3 aI aJ aK) tf74 aL.f3 fun el bu=>(wl_nil (qh (bu.hasK ((W.le.trans ae).trans aq)) (fun h=>nomatch h) (gd' ?_))))))))
   cases oi cA
   have cD:=bu.nil 142 2
   exact qd ⟨cq,cr,ct,aI,aJ,aK,none,0,0,cB,u,cD.f2.f2.f5.f5.s,((W.le.trans ae).trans aq),(cv.mono (ae.trans aq)),cw,bo,cC,(SliceAt.nil _ _)⟩
  refine wc_skip ?_
  cases oi aF
  have cE:=bs.nil 108 2
  have cF:=cE.nil 142 2
  exact qd ⟨cf,cg,ch,none,0,0,none,0,0,aB,u,cF.f1.f3.f4.f4,kr,bq,br,bo,(SliceAt.nil _ _),(SliceAt.nil _ _)⟩
 rintro _ em ⟨aC,aD,aE,S,T,U,o,q,s,V,rfl,bv,en,cG,cH,bx,bz,bA⟩
 refine qs (sr (mv u ?_))
 obtain⟨eo,cI,cJ⟩:=ob cl
 refine lk co106 (ok_spec_l30Rd_pick F bv.e1 cG cH (by decide :rng64 3) cI) ?_
 rintro ep eq ⟨cK,cL,cM,aM,rfl,af,es,bB,bC⟩
 have bD:=(bv.c1 af).t5
 refine lv (rv_eql u u) (nq ?_)
 obtain⟨m,cN,cO⟩:=ob cJ
 refine wc_cutg (fun E' w'=>∃aN aO aP v x y X Y aa ab,E'=[(0,pt g1),(4,pt I),(5,pt k)]∧SH w K Z w' ab [obj g1 [V3 aN aO aP,V6 m.1.p_] 208,obj I [V6 0,V3 none 0 0,V3 none 0 0] 77,obj k [V6 m.2.Id,V3 v x y,V3 X Y aa] 77,tail (V3 v x y) 108 2,tail (V3 X Y aa) 142 2]∧KLe aM ab∧SliceAt tU8 ab aN aO aP m.1.b_∧rng64 m.1.p_∧rng64 m.2.Id∧SliceAt tGField ab v x y m.2.Fields∧SliceAt tGAttr ab X Y aa m.2.Nums) ?_ ?_
 ·refine wcc cN u (fun cP aQ=>?_) (fun cP aQ=>?_)
  ·have ar:=bD.drew
   refine wh1 (fun w'=>Holds aM w') (fun w'=>HasObj k [V6 l.2.Id,V3 S T U,V3 o q s] w') 8 [(1,6),(1,7),(1,8),(6,7),(6,8),(7,8)] mixed (ar.hasK kr) (fun _=>ar.hasObj (.tail _ (.tail _ (.head _)))) (gt (rv_fieldAddr ff77_1 u) (gf (fun _ h=>rh_loadm1 tf74 u u h) (gt (rv_move u) (gn ?_))))
   obtain⟨au,cQ,cR⟩:=ob aQ
   refine lk co256 (ok_spec_l30Text F ar.e1 bB bC cQ) ?_
   rintro et eu ⟨cS,cT,cU,ev,rfl,B,cV,cW,cX⟩
   have aR:=(ar.c1 B).t5
   refine wl_nil (qh (aR.hasK B.le) (fun _=>aR.hasObj (.tail _ (.tail _ (.head _)))) (gt (rv_build (cs:=#[sv [116,105,116,108,101],sv au.1]) sp108 tf108 u (by kernel_rfl)) (gn (lb tGField (.agg #[sv [116,105,116,108,101],sv au.1]) [sv [116,105,116,108,101],sv au.1] (GField.mk ([116,105,116,108,101]:Str) au.1) underlying74 tf108 ⟨u,(by decide :([116,105,116,108,101]:Str).length≤maxLen),cV⟩ aR fun ew ex eA J cY aS=>(wl_nil (qh (aS.hasK (B.le.trans J)) (fun _=>aS.hasObj (.tail _ (.tail _ (.tail _ (.head _))))) (gn ?_)))))))
   obtain⟨eB,cZ,da⟩:=ob cR
   refine lp underlying74 tf108 (bz.mono ((af.le.trans B.le).trans J)) cY cZ aS.f4 fun aT aU aV eC db ag dc aW=>(wl_nil (qh (aW.hasK ((B.le.trans J).trans ag)) (fun _=>aW.hasObj (.tail _ (.tail _ (.tail _ (.tail _ (.head _)))))) (gt (rv_fieldAddr ff77_1 u) (gn (ls [V6 l.2.Id,V3 aT aU aV,V3 o q s] (V3 aT aU aV) tf74 aW.f4 fun eD bE=>(wl_nil (qh (bE.hasK ((B.le.trans J).trans ag)) (fun h=>nomatch h) (gd' ?_))))))))
   cases oi da
   exact qd ⟨cS,cT,cU,aT,aU,aV,o,q,s,db,u,bE.f5.f2.f2.f5.f5.s,((B.le.trans J).trans ag),(cW.mono (J.trans ag)),cX,bx,dc,(SliceAt.mono (((af.le.trans B.le).trans J).trans ag) bA)⟩
  refine wc_skip ?_
  cases oi aQ
  exact qd ⟨cK,cL,cM,S,T,U,o,q,s,aM,u,bD,kr,bB,bC,bx,(bz.mono af.le),(bA.mono af.le)⟩
 rintro _ eE ⟨aN,aO,aP,v,x,y,X,Y,aa,ab,rfl,bF,eF,dd,de,bG,bH,bI⟩
 refine qs (sr (mv u ?_))
 obtain⟨eG,df,dg⟩:=ob cO
 refine lk co106 (ok_spec_l30Rd_pick F bF.e1 dd de (by decide :rng64 3) df) ?_
 rintro eH eI ⟨dh,di,dj,aX,rfl,ah,eJ,bJ,bK⟩
 have bL:=(bF.c1 ah).t5
 refine lv (rv_gtr u u) (nq ?_)
 obtain⟨c,dk,dl⟩:=ob dg
 refine wc_cutg (fun E' w'=>∃aY aZ ba d f i C D G ac,E'=[(0,pt g1),(4,pt I),(5,pt k)]∧SH w K Z w' ac [obj g1 [V3 aY aZ ba,V6 c.1.p_] 208,obj I [V6 0,V3 none 0 0,V3 none 0 0] 77,obj k [V6 c.2.Id,V3 d f i,V3 C D G] 77,tail (V3 d f i) 108 2,tail (V3 C D G) 142 2]∧KLe aX ac∧SliceAt tU8 ac aY aZ ba c.1.b_∧rng64 c.1.p_∧rng64 c.2.Id∧SliceAt tGField ac d f i c.2.Fields∧SliceAt tGAttr ac C D G c.2.Nums) ?_ ?_
 ·refine wcc dk u (fun dm bb=>?_) (fun dm bb=>?_)
  ·have aw:=bL.drew
   refine wh1 (fun w'=>Holds aX w') (fun w'=>HasObj k [V6 m.2.Id,V3 v x y,V3 X Y aa] w') 8 [(1,6),(1,7),(1,8),(6,7),(6,8),(7,8)] mixed (aw.hasK kr) (fun _=>aw.hasObj (.tail _ (.tail _ (.head _)))) (gt (rv_fieldAddr ff77_2 u) (gf (fun _ h=>rh_loadm1 tf75 u u h) (gt (rv_move u) (gn ?_))))
   obtain⟨ax,dn,dp⟩:=ob bb
   refine lk co106 (ok_spec_l30Rd_pick F aw.e1 bJ bK (by decide :rng64 4) dn) ?_
   rintro eK eL ⟨dq,dr,dt,eM,rfl,H,du,dv,dw⟩
   have bc:=(aw.c1 H).t5
   refine wl_nil (qh (bc.hasK H.le) (fun _=>bc.hasObj (.tail _ (.tail _ (.head _)))) (gt (rv_build (cs:=#[sv [114,97,116,101],V6 ax.1]) sp142 tf142 u (by kernel_rfl)) (gn (lb tGAttr (.agg #[sv [114,97,116,101],V6 ax.1]) [sv [114,97,116,101],V6 ax.1] (GAttr.mk ([114,97,116,101]:Str) ax.1) underlying75 tf142 ⟨u,(by decide :([114,97,116,101]:Str).length≤maxLen),du⟩ bc fun eN eO eP O dx bd=>(wl_nil (qh (bd.hasK (H.le.trans O)) (fun _=>bd.hasObj (.tail _ (.tail _ (.tail _ (.head _))))) (gn ?_)))))))
   obtain⟨eQ,dy,dz⟩:=ob dp
   refine lp underlying75 tf142 (bI.mono ((ah.le.trans H.le).trans O)) dx dy bd.f5 fun be bf bg eR dA ai dB bh=>(wl_nil (qh (bh.hasK ((H.le.trans O).trans ai)) (fun _=>bh.hasObj (.tail _ (.tail _ (.tail _ (.tail _ (.head _)))))) (gt (rv_fieldAddr ff77_2 u) (gn (ls [V6 m.2.Id,V3 v x y,V3 be bf bg] (V3 be bf bg) tf75 bh.f4 fun eS bM=>(wl_nil (qh (bM.hasK ((H.le.trans O).trans ai)) (fun h=>nomatch h) (gd' ?_))))))))
   cases oi dz
   exact qd ⟨dq,dr,dt,v,x,y,be,bf,bg,dA,u,bM.f1.f5.f2.f5.f5.s,((H.le.trans O).trans ai),(dv.mono (O.trans ai)),dw,bG,(SliceAt.mono (((ah.le.trans H.le).trans O).trans ai) bH),dB⟩
  refine wc_skip ?_
  cases oi bb
  exact qd ⟨dh,di,dj,v,x,y,X,Y,aa,aX,u,bL,kr,bJ,bK,bG,(bH.mono ah.le),(bI.mono ah.le)⟩
 rintro _ eT ⟨aY,aZ,ba,d,f,i,C,D,G,ac,rfl,bN,eU,dC,dD,bO,bP,bQ⟩
 refine qs (sr (mv u ?_))
 obtain⟨eV,dE,dF⟩:=ob dl
 refine lk co106 (ok_spec_l30Rd_pick F bN.e1 dC dD (by decide :rng64 3) dE) ?_
 rintro eW eX ⟨dG,dH,dI,bR,rfl,aj,eY,bS,bT⟩
 have bi:=(bN.c1 aj).t5
 refine lv (rv_eql u u) (nq (wcc dF u (fun dJ bj=>?_) (fun dJ bj=>?_)))
 ·have ay:=bi.drew
  refine wh1 (fun w'=>Holds bR w') (fun w'=>HasObj k [V6 c.2.Id,V3 d f i,V3 C D G] w') 9 [(1,7),(1,8),(1,9),(7,8),(7,9),(8,9)] mixed (ay.hasK kr) (fun _=>ay.hasObj (.tail _ (.tail _ (.head _)))) (gt (rv_fieldAddr ff77_2 u) (gf (fun _ h=>rh_loadm1 tf75 u u h) (gt (rv_move u) (gn ?_))))
  obtain⟨az,dK,dL⟩:=ob bj
  refine lk co106 (ok_spec_l30Rd_pick F ay.e1 bS bT (by decide :rng64 30) dK) ?_
  rintro eZ fb ⟨dM,dN,dO,fc,rfl,R,fd,dP,dQ⟩
  have bk:=(ay.c1 R).t5
  refine wl_nil (qh (bk.hasK R.le) (fun _=>bk.hasObj (.tail _ (.tail _ (.head _)))) (gt (rv_add u u) (gt (rv_build (cs:=#[sv [121,101,97,114],V6 (w64 ((2000:Int)+az.1))]) sp142 tf142 u (by kernel_rfl)) (gn (lb tGAttr (.agg #[sv [121,101,97,114],V6 (w64 ((2000:Int)+az.1))]) [sv [121,101,97,114],V6 (w64 ((2000:Int)+az.1))] (GAttr.mk ([121,101,97,114]:Str) (w64 ((2000:Int)+az.1))) underlying75 tf142 ⟨u,(by decide :([121,101,97,114]:Str).length≤maxLen),(w64_rng _)⟩ bk fun fe fg fh ad dR bl=>(wl_nil (qh (bl.hasK (R.le.trans ad)) (fun _=>bl.hasObj (.tail _ (.tail _ (.tail _ (.head _))))) (gn ?_))))))))
  obtain⟨fi,dS,dT⟩:=ob dL
  refine lp underlying75 tf142 (bQ.mono ((aj.le.trans R.le).trans ad)) dR dS bl.f5 fun ak am an fj dU aA dV bm=>(wl_nil (qh (bm.hasK ((R.le.trans ad).trans aA)) (fun _=>bm.hasObj (.tail _ (.tail _ (.tail _ (.tail _ (.head _)))))) (gt (rv_fieldAddr ff77_2 u) (gn (ls [V6 c.2.Id,V3 d f i,V3 ak am an] (V3 ak am an) tf75 bm.f4 fun fk bn=>(wl_nil (qh (bn.hasK ((R.le.trans ad).trans aA)) (fun h=>nomatch h) (gd' (qr (lv (rv_loadmS (ds:=[V6 c.2.Id,V3 d f i,V3 ak am an]) tf77 u m0 bn u u) (lw [V6 c.2.Id,V3 d f i,V3 ak am an] tf77 bn.f4 fun fm bU=>?_)))))))))))
  refine nq (wc_ret ?_)
  cases oi dT
  exact ez results225 tf77 bU m0 ⟨d,f,i,ak,am,an,dM,dN,dO,dU,u,bU.f4.f3.f5.s,bO,(SliceAt.mono (((aj.le.trans R.le).trans ad).trans aA) bP),dV,(dP.mono (ad.trans aA)),dQ⟩
 refine wc_skip (qr (lv (rv_loadmS (ds:=[V6 c.2.Id,V3 d f i,V3 C D G]) tf77 u m2 bi u u) (lw [V6 c.2.Id,V3 d f i,V3 C D G] tf77 bi.f1 fun fn bV=>(nq (wc_ret ?_)))))
 cases oi bj
 exact ez results225 tf77 bV m0 ⟨d,f,i,C,D,G,dG,dH,dI,bR,u,bV.f1.f4.f4.s,bO,(bP.mono aj.le),(bQ.mono aj.le),bS,bT⟩

theorem ok_spec_l30Docs {q0:GL30Rd}{r:(List GDoc)×GL30Rd}(hS:SH w K Z w K [obj g1 [V3 A a b,V6 q0.p_] 208])(aj:SliceAt tU8 K A a b q0.b_)(ak:rng64 q0.p_)(hm:M.spec_l30Docs F q0=some r):
  Calls prog 181 #[.pointer (some ⟨g1,0,none⟩)] w fun e w'=>∃a_1 n_2 c_3 a_5 n_6 c_7 K',e= .returned (V3 a_1 n_2 c_3)∧SH w K Z w' K' [tail (V3 a_1 n_2 c_3) 77 3,obj g1 [V3 a_5 n_6 c_7,V6 r.2.p_] 208]∧SliceAt tGDoc K' a_1 n_2 c_3 r.1∧SliceAt tU8 K' a_5 n_6 c_7 r.2.b_∧rng64 r.2.p_:=by
 rw [M.spec_l30Docs] at hm
 refine ci func181 u ntmps181 (sr (lv (r_n u) (nr (b0 tGDoc underlying43 tf77 hS fun a7 w9 bm am an ao=>(av u (nr (lv (r_0 u) (nsr (mv u ?_)))))))))
 obtain⟨bn,ap,aq⟩:=ob hm
 have ab:=ao.f1
 refine lk co106 (ok_spec_l30Rd_pick F ab.e1 (aj.mono am) ak (by decide :rng64 6) ap) ?_
 rintro bo bp ⟨ar,au,aw,H,rfl,ac,ax,ay,az⟩
 have aA:=(ab.c1 ac).t2
 refine av u (nq ?_)
 obtain⟨s,aB,aC⟩:=ob aq
 refine wc_cutg (fun E' w'=>∃i k l x y B d,E'=[(0,pt g1),(3,V3 i k l)]∧SH w K Z w' d [obj g1 [V3 x y B,V6 s.2.p_] 208,tail (V3 i k l) 77 3]∧KLe H d∧SliceAt tGDoc d i k l s.1∧SliceAt tU8 d x y B s.2.b_∧rng64 s.2.p_) ?_ ?_
 ·refine wc_block ?_
  obtain⟨bq,aD,aE⟩:=ob aB
  refine qw (fun (c:(List GDoc)×Int×Int×GL30Rd) E' w'=>∃m o q C D G f,E'=[(0,pt g1),(3,V3 m o q),(4,V6 c.2.1),(5,V6 c.2.2.1)]∧SH w K Z w' f [obj g1 [V3 C D G,V6 c.2.2.2.p_] 208,tail (V3 m o q) 77 3]∧KLe H f∧SliceAt tGDoc f m o q c.1∧rng64 c.2.1∧rng64 c.2.2.1∧SliceAt tU8 f C D G c.2.2.2.b_∧rng64 c.2.2.2.p_) aD ⟨a7,0,0,ar,au,aw,H,u,aA,kr,(an.mono ac.le),d_0,ax,ay,az⟩ ?_
  rintro c _ br bs aF aG ⟨m,o,q,C,D,G,f,rfl,I,ad,ae,bu,bv,af,ag⟩
  refine wc_seq (sr (mv u (lv (rv_gtr u u) (nq (wcc aF u (fun aH J=>?_) (fun aH J=>?_))))))
  ·refine wc_skip (qs (wc_block (sr (mv u (lv (rv_add u u) (mv u ?_))))))
   obtain⟨bx,aI,aJ⟩:=ob J
   refine lk co106 (ok_spec_l30Rd_pick F I.e1 af ag (by decide :rng64 3) aI) ?_
   rintro bz bA ⟨bB,bC,bD,bE,rfl,O,bF,aK,aL⟩
   have ah:=(I.c1 O).t2
   refine lv (rv_add u u) (av u (nq (wc_region (mv u (mv u (mv u ?_))))))
   obtain⟨R,aM,aN⟩:=ob aJ
   refine lk co225 (ok_spec_l30Doc F ah.e1 aK aL (w64_rng _) aM) ?_
   rintro bG bH ⟨S,T,U,V,W,X,aO,aP,aQ,bI,rfl,Y,aR,aS,aT,aU,aV⟩
   have aW:=(ah.c1 Y).t4
   refine lb tGDoc (.agg #[V6 R.1.Id,V3 S T U,V3 V W X]) [V6 R.1.Id,V3 S T U,V3 V W X] R.1 underlying43 tf77 ⟨S,T,U,V,W,X,u,aR,aS,aT⟩ aW fun bJ bK bL aa aX aY=>?_
   obtain⟨bM,aZ,ba⟩:=ob aN
   refine lp underlying43 tf77 (ae.mono ((O.le.trans Y.le).trans aa)) aX aZ aY.f4 fun bb bc bd bN be ai bf bg=>(av u (nb (qe_seq (wc_region (mv u (lv (rv_sub u u) (av u (wl_nil ?_))))))))
   cases oi ba
   exact qd ⟨_,u,bb,bc,bd,aO,aP,aQ,be,u,bg.f4.s,((((ad.trans O.le).trans Y.le).trans aa).trans ai),bf,(w64_rng _),(w64_rng _),(aU.mono (aa.trans ai)),aV⟩
  refine wc_exit (qe_then_exit (qe_then_exit ?_))
  cases oi J
  cases aG _ u
  refine qe_block_eq ?_
  cases oi aE
  exact qd ⟨m,o,q,C,D,G,f,u,I,ad,ae,af,ag⟩
 rintro _ bO ⟨i,k,l,x,y,B,d,rfl,bh,bP,bi,bj,bk⟩
 refine qr (mv u (av u (nq (wc_ret ?_))))
 cases oi aC
 exact ey results181 ⟨i,k,l,x,y,B,d,u,bh.f1,bi,bj,bk⟩

theorem ok_spec_IndexNew {q0:GConf}{r:GIndex}(hS:SH w K [] w K [])(y:SliceAt tStr K A a b q0.Stops)(C:SliceAt tGSyn K B c d q0.Syns)(hm:M.spec_IndexNew F q0=some r):
  Calls prog 220 #[.agg #[V3 A a b,V3 B c d]] w fun e w'=>∃a_1 n_2 c_3 a_5 n_6 c_7 a_9 n_10 c_11 K',e= .returned (.agg #[V3 a_1 n_2 c_3,V3 a_5 n_6 c_7,V3 a_9 n_10 c_11])∧SH w K [] w' K' [tail (V3 a_9 n_10 c_11) 73 3]∧SliceAt tStr K' a_1 n_2 c_3 r.Conf.Stops∧SliceAt tGSyn K' a_5 n_6 c_7 r.Conf.Syns∧SliceAt tGLive K' a_9 n_10 c_11 r.Segs:=by
 rw [M.spec_IndexNew] at hm
 refine ci func220 u ntmps220 (sr (bx u hS fun H ag I=>?_))
 have J:SH _ _ _ _ _ [obj H [V3 A a b,V3 B c d] 33]:=I
 refine al tf36 J fun O ah R=>?_
 have i:SH _ _ _ _ _ [obj O [V3 none 0 0,V3 none 0 0,V3 none 0 0] 36,_]:=R
 refine nsr (lv (rv_loadmS (ds:=[V3 A a b,V3 B c d]) tf33 u m1 i u u) ?_)
 obtain⟨ai,S,T⟩:=ob hm
 refine lk co66 (ok_spec_l2Ok F i.enter0 y C S) ?_
 rintro aj ak ⟨U,rfl,k⟩
 have f:=(i.c0 k).t2
 refine lv (rv_not u) (nq (wcc T u (fun V l=>?_) (fun V l=>?_)))
 ·refine sr (lv (rv_build (cs:=#[V3 none 0 0,V3 none 0 0,V3 none 0 0]) sp36 tf36 u (by kernel_rfl)) (lw [V3 none 0 0,V3 none 0 0,V3 none 0 0] tf36 f fun am D=>(nq (rr ?_))))
  cases oi l
  have W:=D.nil 73 3
  exact ez results220 tf36 D m0 ⟨none,0,0,none,0,0,none,0,0,U,u,W.s,(SliceAt.nil _ _),(SliceAt.nil _ _),(SliceAt.nil _ _)⟩
 refine wc_skip (qr (lv (rv_loadmS (ds:=[V3 A a b,V3 B c d]) tf33 u m1 f u u) ?_))
 obtain⟨an,X,Y⟩:=ob l
 refine lk co173 (ok_spec_l18CopyConf F f.enter0 (y.mono k.le) (C.mono k.le) X) ?_
 rintro ao ap ⟨m,o,q,s,v,x,aa,rfl,ab,ac,ad⟩
 have ae:=(f.c0 ab).t4
 refine lv (rv_build (cs:=#[V3 m o q,V3 s v x,V3 none 0 0]) sp36 tf36 u (by kernel_rfl)) (lw [V3 m o q,V3 s v x,V3 none 0 0] tf36 ae.f2 fun aq G=>(nq (wc_ret ?_)))
 cases oi Y
 have af:=G.nil 73 3
 exact ez results220 tf36 G m0 ⟨m,o,q,s,v,x,none,0,0,aa,u,af.s,ac,ad,(SliceAt.nil _ _)⟩

theorem ok_spec_l30Conf {q0:GL30Rd}{r:GConf×GL30Rd}(hS:SH w K Z w K [obj g1 [V3 A a b,V6 q0.p_] 208])(aI:SliceAt tU8 K A a b q0.b_)(aJ:rng64 q0.p_)(hm:M.spec_l30Conf F q0=some r):
  Calls prog 221 #[.pointer (some ⟨g1,0,none⟩)] w fun e w'=>∃a_1 n_2 c_3 a_5 n_6 c_7 a_9 n_10 c_11 K',e= .returned (.agg #[V3 a_1 n_2 c_3,V3 a_5 n_6 c_7])∧SH w K Z w' K' [tail (V3 a_1 n_2 c_3) 9 1,tail (V3 a_5 n_6 c_7) 159 2,obj g1 [V3 a_9 n_10 c_11,V6 r.2.p_] 208]∧SliceAt tStr K' a_1 n_2 c_3 r.1.Stops∧SliceAt tGSyn K' a_5 n_6 c_7 r.1.Syns∧SliceAt tU8 K' a_9 n_10 c_11 r.2.b_∧rng64 r.2.p_:=by
 rw [M.spec_l30Conf] at hm
 refine ci func221 rfl ntmps221 (sr (al tf33 hS fun s w9 aK=>?_))
 have aL:SH _ _ _ _ _ [obj s [V3 none 0 0,V3 none 0 0] 33,_]:=aK
 refine nr (lv (rv_build (cs:=#[V3 none 0 0,V3 none 0 0]) sp33 tf33 rfl (by kernel_rfl)) (al tf33 aL fun v bZ aM=>?_))
 have aN:SH _ _ _ _ _ [obj v [V3 none 0 0,V3 none 0 0] 33,_,_]:=aM
 refine lw [V3 none 0 0,V3 none 0 0] tf33 aN fun ca aO=>(nsr (mv rfl ?_))
 obtain⟨aP,aQ,aR⟩:=ob hm
 have ak:=aO.f2
 refine lk co106 (ok_spec_l30Rd_pick F ak.e1 aI aJ (by decide :rng64 3) aQ) ?_
 rintro cb cc ⟨aS,aT,aU,am,rfl,aV,cd,aW,aX⟩
 have an:=(ak.c1 aV).t3
 refine lv (rv_gtr rfl rfl) (nq ?_)
 obtain⟨ao,aY,aZ⟩:=ob aR
 refine wc_cutg (fun E' w'=>∃x y B i k l C,E'=[(0,pt g1),(2,pt s),(3,pt v)]∧SH w K Z w' C [obj g1 [V3 aS aT aU,V6 aP.2.p_] 208,obj s [V3 none 0 0,V3 none 0 0] 33,obj v [V3 x y B,V3 i k l] 33,tail (V3 x y B) 9 1,tail (V3 i k l) 159 2]∧KLe am C∧SliceAt tStr C x y B ao.Stops∧SliceAt tGSyn C i k l ao.Syns) ?_ ?_
 ·refine wcc aY rfl (fun ba W=>?_) (fun ba W=>?_)
  ·refine wc_region (lb tStr (sv [116,104,101]) [sv [116,104,101]] ([116,104,101]:Str) underlying22 tf9 ⟨rfl,(by decide :([116,104,101]:Str).length≤maxLen)⟩ an fun X ce bb bc bd be=>(fa ff33_0 rfl (ls [V3 X 1 1,V3 none 0 0] (V3 X 1 1) tf22 be.f2 fun cf bf=>(wl_nil ?_))))
   cases oi W
   have bg:=bf.nil 159 2
   exact qd ⟨X,1,1,none,0,0,bb,rfl,bg.f2.f2.f4.f4,bc,bd,(SliceAt.nil _ _)⟩
  refine wc_skip ?_
  cases oi W
  have bh:=an.nil 9 1
  have bi:=bh.nil 159 2
  exact qd ⟨none,0,0,none,0,0,am,rfl,bi.f1.f3.f4.f4,kr,(SliceAt.nil _ _),(SliceAt.nil _ _)⟩
 rintro _ cg ⟨x,y,B,i,k,l,C,rfl,ap,bj,bk,aq⟩
 refine qs (sr (mv rfl ?_))
 obtain⟨bl,bm,bn⟩:=ob aZ
 refine lk co106 (ok_spec_l30Rd_pick F ap.e1 (aW.mono bj) aX (by decide :rng64 4) bm) ?_
 rintro ch cj ⟨bo,bp,bq,ar,rfl,S,ck,br,bs⟩
 have au:=(ap.c1 S).t5
 refine lv (rv_eql rfl rfl) (nq ?_)
 obtain⟨aw,bu,bv⟩:=ob bn
 refine wc_cutg (fun E' w'=>∃c d f m o q D,E'=[(0,pt g1),(2,pt s),(3,pt v)]∧SH w K Z w' D [obj g1 [V3 bo bp bq,V6 bl.2.p_] 208,obj s [V3 none 0 0,V3 none 0 0] 33,obj v [V3 c d f,V3 m o q] 33,tail (V3 c d f) 9 1,tail (V3 m o q) 159 2]∧KLe ar D∧SliceAt tStr D c d f aw.Stops∧SliceAt tGSyn D m o q aw.Syns) ?_ ?_
 ·refine wcc bu rfl (fun bx Y=>?_) (fun bx Y=>?_)
  ·refine wc_region (bw [[100,111,103],[116,104,101]] underlying22 tf9 au fun aa cl bz ax bA bB=>(fa ff33_0 rfl (ls [V3 aa 2 2,V3 i k l] (V3 aa 2 2) tf22 bB.f3 fun cm bC=>(wl_nil ?_))))
   cases oi Y
   exact qd ⟨aa,2,2,i,k,l,bz,rfl,bC.f5.f2.f2.f4.f4.s,ax,bA,(aq.mono (S.le.trans ax))⟩
  refine wc_skip ?_
  cases oi Y
  exact qd ⟨x,y,B,i,k,l,ar,rfl,au,kr,(bk.mono S.le),(aq.mono S.le)⟩
 rintro _ cn ⟨c,d,f,m,o,q,D,rfl,ay,bD,ab,bE⟩
 refine qs (sr (mv rfl ?_))
 obtain⟨cp,bF,bG⟩:=ob bv
 refine lk co106 (ok_spec_l30Rd_pick F ay.e1 (br.mono bD) bs (by decide :rng64 4) bF) ?_
 rintro cq cr ⟨ac,ad,ae,bH,rfl,G,ct,af,ag⟩
 have T:=(ay.c1 G).t5
 refine nq (wc_block (sr (lv (rv_eql rfl rfl) (av rfl (nq (wcc bG rfl (fun bI ah=>?_) (fun bI ah=>?_)))))))
 ·refine wc_region (bw [[110,101,119],[121,111,114,107]] underlying22 tf9 T fun U cu cv az bJ bK=>(lv (rv_build (cs:=#[V3 U 2 2,sv [110,121]]) sp159 tf159 rfl (by kernel_rfl)) (lb tGSyn (.agg #[V3 U 2 2,sv [110,121]]) [V3 U 2 2,sv [110,121]] (GSyn.mk ([([110,101,119]:Str),([121,111,114,107]:Str)]:List Str) ([110,121]:Str)) underlying31 tf159 ⟨U,2,2,rfl,bJ,(by decide :([110,121]:Str).length≤maxLen)⟩ bK fun H cw bL aA bM bN=>(fa ff33_1 rfl (ls [V3 c d f,V3 H 1 1] (V3 H 1 1) tf31 bN.f4 fun cx aB=>(nb (qr (lv (rv_loadmS (ds:=[V3 c d f,V3 H 1 1]) tf33 rfl m0 aB rfl rfl) (lw [V3 c d f,V3 H 1 1] tf33 aB.f4 fun cy aC=>?_)))))))))
  refine nq (wc_ret ?_)
  cases oi ah
  exact ez results221 tf33 aC m0 ⟨c,d,f,H,1,1,ac,ad,ae,bL,rfl,aC.f4.f3.f5.s,(ab.mono ((G.le.trans az).trans aA)),bM,(af.mono (az.trans aA)),ag⟩
 refine sr (lv (rv_eql rfl rfl) (av rfl (nq (wcc ah rfl (fun bO ai=>?_) (fun bO ai=>?_)))))
 ·refine wc_region (lb tStr (sv [98,105,103]) [sv [98,105,103]] ([98,105,103]:Str) underlying22 tf9 ⟨rfl,(by decide :([98,105,103]:Str).length≤maxLen)⟩ T fun I cz cA aD bP bQ=>(lv (rv_build (cs:=#[V3 I 1 1,sv [108,97,114,103]]) sp159 tf159 rfl (by kernel_rfl)) (bw [[98,105,103],[114,101,100],[102,111,120]] underlying22 tf9 bQ fun J cB cC aj bR bS=>(lv (rv_build (cs:=#[V3 J 3 3,sv [102,111,120]]) sp159 tf159 rfl (by kernel_rfl)) (bw [[110,101,119],[121,111,114,107]] underlying22 tf9 bS fun O cD cE V bT bU=>(lv (rv_build (cs:=#[V3 O 2 2,sv [110,121]]) sp159 tf159 rfl (by kernel_rfl)) ?_))))))
  refine wl_buildSlice (t:=tGSyn) (n:=3) (pv:=[(0,.agg #[V3 I 1 1,sv [108,97,114,103]]),(1,.agg #[V3 J 3 3,sv [102,111,120]]),(2,.agg #[V3 O 2 2,sv [110,121]])]) (cs:=[V3 I 1 1,sv [108,97,114,103],V3 J 3 3,sv [102,111,120],V3 O 2 2,sv [110,121]]) (xs:=[(GSyn.mk ([([98,105,103]:Str)]:List Str) ([108,97,114,103]:Str)),(GSyn.mk ([([98,105,103]:Str),([114,101,100]:Str),([102,111,120]:Str)]:List Str) ([102,111,120]:Str)),(GSyn.mk ([([110,101,119]:Str),([121,111,114,107]:Str)]:List Str) ([110,121]:Str))]) wn rfl underlying31 tf159 rfl rfl rfl (by kernel_rfl) rfl rfl (lit_cons (u:=.agg #[V3 I 1 1,sv [108,97,114,103]]) (z:=(GSyn.mk ([([98,105,103]:Str)]:List Str) ([108,97,114,103]:Str))) ⟨I,1,1,rfl,(bP.mono (aj.trans V)),(by decide :([108,97,114,103]:Str).length≤maxLen)⟩ (lit_cons (u:=.agg #[V3 J 3 3,sv [102,111,120]]) (z:=(GSyn.mk ([([98,105,103]:Str),([114,101,100]:Str),([102,111,120]:Str)]:List Str) ([102,111,120]:Str))) ⟨J,3,3,rfl,(bR.mono V),(by decide :([102,111,120]:Str).length≤maxLen)⟩ (lit_cons (u:=.agg #[V3 O 2 2,sv [110,121]]) (z:=(GSyn.mk ([([110,101,119]:Str),([121,111,114,107]:Str)]:List Str) ([110,121]:Str))) ⟨O,2,2,rfl,bT,(by decide :([110,121]:Str).length≤maxLen)⟩ lit_nil))) bU ?_
  intro R cF bV aE bW bX
  refine fa ff33_1 rfl (ls [V3 c d f,V3 R 3 3] (V3 R 3 3) tf31 bX.f6 fun cG aF=>(nb (qr (lv (rv_loadmS (ds:=[V3 c d f,V3 R 3 3]) tf33 rfl m0 aF rfl rfl) (lw [V3 c d f,V3 R 3 3] tf33 aF.f6 fun cH aG=>(nq (wc_ret ?_)))))))
  cases oi ai
  exact ez results221 tf33 aG m0 ⟨c,d,f,R,3,3,ac,ad,ae,bV,rfl,aG.f6.f3.f7.s,(SliceAt.mono ((((G.le.trans aD).trans aj).trans V).trans aE) ab),bW,(SliceAt.mono (((aD.trans aj).trans V).trans aE) af),ag⟩
 refine wc_skip (qe_block (qr (lv (rv_loadmS (ds:=[V3 c d f,V3 m o q]) tf33 rfl m2 T rfl rfl) (lw [V3 c d f,V3 m o q] tf33 T.f1 fun cI aH=>(nq (wc_ret ?_))))))
 cases oi ai
 exact ez results221 tf33 aH m0 ⟨c,d,f,m,o,q,ac,ad,ae,bH,rfl,aH.f1.f4.f4.s,(ab.mono G.le),(bE.mono G.le),af,ag⟩

theorem ok_spec_l30Index {q0:GL30Rd}{r:GIndex×GL30Rd}(hS:SH w K Z w K [obj g1 [V3 A a b,V6 q0.p_] 208])(fh:SliceAt tU8 K A a b q0.b_)(fi:rng64 q0.p_)(hm:M.spec_l30Index F q0=some r):
  Calls prog 169 #[.pointer (some ⟨g1,0,none⟩)] w fun e w'=>∃a_1 n_2 c_3 a_5 n_6 c_7 a_9 n_10 c_11 a_13 n_14 c_15 K',e= .returned (.agg #[V3 a_1 n_2 c_3,V3 a_5 n_6 c_7,V3 a_9 n_10 c_11])∧SH w K Z w' K' [tail (V3 a_9 n_10 c_11) 73 3,obj g1 [V3 a_13 n_14 c_15,V6 r.2.p_] 208]∧SliceAt tStr K' a_1 n_2 c_3 r.1.Conf.Stops∧SliceAt tGSyn K' a_5 n_6 c_7 r.1.Conf.Syns∧SliceAt tGLive K' a_9 n_10 c_11 r.1.Segs∧SliceAt tU8 K' a_13 n_14 c_15 r.2.b_∧rng64 r.2.p_:=by
 rw [M.spec_l30Index] at hm
 refine ci func169 u ntmps169 (sr (al tf36 hS fun D w9 fj=>?_))
 have fk:SH _ _ _ _ _ [obj D [V3 none 0 0,V3 none 0 0,V3 none 0 0] 36,_]:=fj
 refine nr (mv u ?_)
 obtain⟨ie,fm,fn⟩:=ob hm
 have cx:=fk.f1
 refine lk co221 (ok_spec_l30Conf F cx.e1 fh fi fm) ?_
 rintro ig ih ⟨ii,ij,ik,il,im,io,ip,iq,ir,it,rfl,fo,fp,fq,fr,fs⟩
 have cy:=(cx.c1 fo).t4
 obtain⟨iu,ft,fu⟩:=ob fn
 refine lk co220 (ok_spec_IndexNew F cy.enter0 fp fq ft) ?_
 rintro iv iw ⟨cz,cA,cB,cC,cD,cE,cF,cG,cH,ix,rfl,cI,fv,fw,fx⟩
 have fy:=(cy.c0 cI).t5
 refine al tf36 fy fun o iy fz=>?_
 have fA:SH _ _ _ _ _ [obj o [V3 none 0 0,V3 none 0 0,V3 none 0 0] 36,_,_,_,_,_]:=fz
 refine lw [V3 cz cA cB,V3 cC cD cE,V3 cF cG cH] tf36 fA fun iz fB=>(nsr (mv u ?_))
 obtain⟨iA,fC,fD⟩:=ob fu
 have cJ:=fB.f4
 refine lk co106 (ok_spec_l30Rd_pick F cJ.e1 (fr.mono cI.le) fs (by decide :rng64 7) fC) ?_
 rintro iB iC ⟨fE,fF,fG,bI,rfl,bi,fH,fI,fJ⟩
 have fK:=(cJ.c1 bi).t6
 refine av u (nq ?_)
 obtain⟨ak,fL,fM⟩:=ob fD
 refine wc_cutg (fun E' w'=>∃bj bk bl am an ao ap aq ar X Y aa J,E'=[(0,pt g1),(2,pt D),(3,pt o)]∧SH w K Z w' J [obj g1 [V3 bj bk bl,V6 ak.1.p_] 208,obj D [V3 none 0 0,V3 none 0 0,V3 none 0 0] 36,obj o [V3 am an ao,V3 ap aq ar,V3 X Y aa] 36,tail (V3 X Y aa) 73 3]∧KLe bI J∧SliceAt tU8 J bj bk bl ak.1.b_∧rng64 ak.1.p_∧SliceAt tStr J am an ao ak.2.Conf.Stops∧SliceAt tGSyn J ap aq ar ak.2.Conf.Syns∧SliceAt tGLive J X Y aa ak.2.Segs) ?_ ?_
 ·refine wc_block ?_
  obtain⟨iD,fN,fO⟩:=ob fL
  have fP:=fK.f2.f2.f5.f3.sb (sk (sk (sk (sk (sd (sd sz))))))
  refine qw (fun (C:Int×GL30Rd×GIndex) E' w'=>∃bm bn bo q s v x y B d f i O,E'=[(0,pt g1),(2,pt D),(3,pt o),(4,V6 C.1)]∧SH w K Z w' O [obj g1 [V3 bm bn bo,V6 C.2.1.p_] 208,obj D [V3 none 0 0,V3 none 0 0,V3 none 0 0] 36,obj o [V3 q s v,V3 x y B,V3 d f i] 36,tail (V3 d f i) 73 3]∧KLe bI O∧rng64 C.1∧SliceAt tU8 O bm bn bo C.2.1.b_∧rng64 C.2.1.p_∧SliceAt tStr O q s v C.2.2.Conf.Stops∧SliceAt tGSyn O x y B C.2.2.Conf.Syns∧SliceAt tGLive O d f i C.2.2.Segs) fN ⟨fE,fF,fG,cz,cA,cB,cC,cD,cE,cF,cG,cH,bI,u,fP,kr,fH,fI,fJ,(fv.mono bi.le),(fw.mono bi.le),(fx.mono bi.le)⟩ ?_
  rintro C _ iE iF fQ fR ⟨bm,bn,bo,q,s,v,x,y,B,d,f,i,O,rfl,bJ,bp,iG,cK,cL,G,H,I⟩
  refine wc_seq (sr (mv u (lv (rv_gtr u u) (nq (wcc fQ u (fun fS bK=>?_) (fun fS bK=>?_))))))
  ·refine wc_skip (qs (wc_block (sr (mv u ?_))))
   obtain⟨iH,fT,fU⟩:=ob bK
   refine lk co106 (ok_spec_l30Rd_pick F bJ.e1 cK cL (by decide :rng64 5) fT) ?_
   rintro iI iJ ⟨iK,iL,iM,au,rfl,c,iN,aw,ax⟩
   have bL:=(bJ.c1 c).t4
   refine nq (wc_block (sr (lv (rv_eql u u) (av u (nq (wcc fU u (fun fV bM=>?_) (fun fV bM=>?_)))))))
   ·refine wc_seq ?_
    obtain⟨ay,fW,fX⟩:=ob bM
    refine wc_cutg (fun E' w'=>∃bN az aA aB aC aD aE ab ac ad bq br bs R,E'=[(0,pt g1),(2,pt D),(3,pt o),(4,V6 C.1),(5,pt bN)]∧SH w K Z w' R [obj bN [V3 az aA aB,V3 aC aD aE,V3 ab ac ad] 36,tail (V3 ab ac ad) 73 3,obj g1 [V3 bq br bs,V6 ay.2.p_] 208,obj D [V3 none 0 0,V3 none 0 0,V3 none 0 0] 36,obj o [V3 q s v,V3 x y B,V3 d f i] 36,tail (V3 d f i) 73 3]∧KLe au R∧SliceAt tStr R az aA aB ay.1.Conf.Stops∧SliceAt tGSyn R aC aD aE ay.1.Conf.Syns∧SliceAt tGLive R ab ac ad ay.1.Segs∧SliceAt tU8 R bq br bs ay.2.b_∧rng64 ay.2.p_) ?_ ?_
    ·obtain⟨iO,cM,fY⟩:=ob fW
     obtain⟨iP,bO,bP⟩:=ob fY
     have aW:=bL.drew
     refine j_0 (fun w'=>Holds au w'∧HasObj o [V3 q s v,V3 x y B,V3 d f i] w') 11 [] mixed ⟨aW.hasK kr,aW.hasObj m2⟩ (jh 0 u (fun _ h=>rh_loadmS (ds:=[V3 q s v,V3 x y B,V3 d f i]) tf36 u u u h.2) (jv 1 u (rv_move u) (j2 2 8 u u ?_ ?_)))
     ·refine lk co106 (ok_spec_l30Rd_pick F aW.e1 aw ax (by decide :rng64 8) cM) ?_
      rintro iQ iR ⟨cN,cO,cP,iS,rfl,k,iT,cQ,cR⟩
      have aX:=(aW.c1 k).t4
      refine j_o ⟨aX.hasK k.le,aX.hasObj m2⟩ (jv 3 u (rv_add u u) (j2 4 8 u u ?_ ?_))
      ·refine lk co52 (ok_spec_IndexDrop F aX.enter0 (G.mono (c.le.trans k.le)) (H.mono (c.le.trans k.le)) (I.mono (c.le.trans k.le)) (w64_rng _) bO) ?_
       rintro iU iV ⟨cS,cT,cU,cV,cW,cX,cY,cZ,da,fZ,rfl,aF,ga,gb,gc⟩
       have bQ:=(aX.c0 aF).t5
       refine j_o ⟨bQ.hasK (k.le.trans aF.le),bQ.hasObj m3⟩ (jv 5 u (rv_move u) (jv 6 u (rv_extract u u) (jv 7 u (rv_extract u u) (j1 8 u (al tf36 bQ fun db iW gd=>?_)))))
       have bR:SH _ _ _ _ _ [obj db [V3 none 0 0,V3 none 0 0,V3 none 0 0] 36,_,_,_,_,_]:=gd
       refine j_o ⟨bR.hasK (k.le.trans aF.le),bR.hasObj m4⟩ (j1 9 u (lw [V3 cS cT cU,V3 cV cW cX,V3 cY cZ da] tf36 bR fun iX bS=>(j_o ⟨bS.hasK (k.le.trans aF.le),bS.hasObj m4⟩ (jv 10 u (rv_assign u) (jd ?_)))))
       cases oi bP
       exact qd ⟨db,cS,cT,cU,cV,cW,cX,cY,cZ,da,cN,cO,cP,fZ,u,bS,(k.le.trans aF.le),ga,gb,gc,(cQ.mono aF.le),cR⟩
      refine al tf36 aX fun dc iY ge=>?_
      have bu:SH _ _ _ _ _ [obj dc [V3 none 0 0,V3 none 0 0,V3 none 0 0] 36,_,_,_,_]:=ge
      refine j_o ⟨bu.hasK k.le,bu.hasObj m3⟩ (j1 4 u (lk co52 (ok_spec_IndexDrop F bu.enter0 (G.mono (c.le.trans k.le)) (H.mono (c.le.trans k.le)) (I.mono (c.le.trans k.le)) (w64_rng _) bO) ?_))
      rintro iZ ja ⟨dd,de,df,dg,dh,di,dj,dk,dl,gg,rfl,aY,gj,gk,gl⟩
      have bT:=(bu.c0 aY).t6
      refine j_o ⟨bT.hasK (k.le.trans aY.le),bT.hasObj m4⟩ (jv 5 u (rv_move u) (jv 6 u (rv_extract u u) (jv 7 u (rv_extract u u) (j1 9 u (lw [V3 dd de df,V3 dg dh di,V3 dj dk dl] tf36 bT.f1 fun jb bU=>(j_o ⟨bU.hasK (k.le.trans aY.le),bU.hasObj m4⟩ (jv 10 u (rv_assign u) (jd ?_))))))))
      cases oi bP
      exact qd ⟨dc,dd,de,df,dg,dh,di,dj,dk,dl,cN,cO,cP,gg,u,bU,(k.le.trans aY.le),gj,gk,gl,(cQ.mono aY.le),cR⟩
     refine al tf36 aW fun dm jc gm=>?_
     have bV:SH _ _ _ _ _ [obj dm [V3 none 0 0,V3 none 0 0,V3 none 0 0] 36,_,_,_,_]:=gm
     refine j_o ⟨bV.hasK kr,bV.hasObj m3⟩ (j1 2 u ?_)
     have dn:=bV.f1
     refine lk co106 (ok_spec_l30Rd_pick F dn.e1 aw ax (by decide :rng64 8) cM) ?_
     rintro je jj ⟨go,gp,gq,jl,rfl,S,jm,gr,gv⟩
     have bv:=(dn.c1 S).t5
     refine j_o ⟨bv.hasK S.le,bv.hasObj m3⟩ (jv 3 u (rv_add u u) (j1 4 u (lk co52 (ok_spec_IndexDrop F bv.enter0 (G.mono (c.le.trans S.le)) (H.mono (c.le.trans S.le)) (I.mono (c.le.trans S.le)) (w64_rng _) bO) ?_)))
     rintro jo jp ⟨dp,dq,dr,dt,du,dv,dw,dx,dy,gw,rfl,aZ,gx,gy,gz⟩
     have bW:=(bv.c0 aZ).t6
     refine j_o ⟨bW.hasK (S.le.trans aZ.le),bW.hasObj m4⟩ (jv 5 u (rv_move u) (jv 6 u (rv_extract u u) (jv 7 u (rv_extract u u) (j1 9 u (lw [V3 dp dq dr,V3 dt du dv,V3 dw dx dy] tf36 bW.f2 fun jq bX=>(j_o ⟨bX.hasK (S.le.trans aZ.le),bX.hasObj m4⟩ (jv 10 u (rv_assign u) (jd ?_))))))))
     cases oi bP
     exact qd ⟨dm,dp,dq,dr,dt,du,dv,dw,dx,dy,go,gp,gq,gw,u,bX,(S.le.trans aZ.le),gx,gy,gz,(gr.mono aZ.le),gv⟩
    rintro _ jr ⟨bN,az,aA,aB,aC,aD,aE,ab,ac,ad,bq,br,bs,R,rfl,dz,gA,gB,gC,gD,gE,gF⟩
    refine qe_seq (wc_region (lv (rv_loadmS (ds:=[V3 az aA aB,V3 aC aD aE,V3 ab ac ad]) tf36 u m0 dz u u) (lw [V3 az aA aB,V3 aC aD aE,V3 ab ac ad] tf36 dz.f4 fun jt gG=>(nb (qe_block (qe_seq (wc_region (mv u (lv (rv_sub u u) ?_)))))))))
    refine av u (wl_nil ?_)
    cases oi fX
    exact qd ⟨_,u,bq,br,bs,az,aA,aB,aC,aD,aE,ab,ac,ad,R,u,gG.f2.f1.f4.f4.s,((bp.trans c.le).trans gA),(w64_rng _),gE,gF,gB,gC,gD⟩
   refine sr (lv (rv_eql u u) (av u (nq (wcc bM u (fun gH bY=>?_) (fun gH bY=>?_)))))
   ·refine wc_seq ?_
    obtain⟨aG,gI,gJ⟩:=ob bY
    refine wc_cutg (fun E' w'=>∃bZ aH aI aJ aK aL aM ae af ag bx bz bA T,E'=[(0,pt g1),(2,pt D),(3,pt o),(4,V6 C.1),(7,pt bZ)]∧SH w K Z w' T [obj bZ [V3 aH aI aJ,V3 aK aL aM,V3 ae af ag] 36,tail (V3 ae af ag) 73 3,obj g1 [V3 bx bz bA,V6 aG.2.p_] 208,obj D [V3 none 0 0,V3 none 0 0,V3 none 0 0] 36,obj o [V3 q s v,V3 x y B,V3 d f i] 36,tail (V3 d f i) 73 3]∧KLe au T∧SliceAt tStr T aH aI aJ aG.1.Conf.Stops∧SliceAt tGSyn T aK aL aM aG.1.Conf.Syns∧SliceAt tGLive T ae af ag aG.1.Segs∧SliceAt tU8 T bx bz bA aG.2.b_∧rng64 aG.2.p_) ?_ ?_
    ·obtain⟨jw,dA,gK⟩:=ob gI
     obtain⟨jx,ca,cb⟩:=ob gK
     have ba:=bL.drew
     refine j_0 (fun w'=>Holds au w'∧HasObj o [V3 q s v,V3 x y B,V3 d f i] w') 10 [] mixed ⟨ba.hasK kr,ba.hasObj m2⟩ (jh 0 u (fun _ h=>rh_loadmS (ds:=[V3 q s v,V3 x y B,V3 d f i]) tf36 u u u h.2) (jv 1 u (rv_move u) (j2 2 7 u u ?_ ?_)))
     ·refine lk co106 (ok_spec_l30Rd_pick F ba.e1 aw ax (by decide :rng64 3) dA) ?_
      rintro jy jz ⟨dB,dC,dD,jA,rfl,l,dE,dF,dG⟩
      have bb:=(ba.c1 l).t4
      refine j_o ⟨bb.hasK l.le,bb.hasObj m2⟩ (j2 3 7 u u ?_ ?_)
      ·refine lk co48 (ok_spec_IndexMerge F bb.enter0 (G.mono (c.le.trans l.le)) (H.mono (c.le.trans l.le)) (I.mono (c.le.trans l.le)) dE ca) ?_
       rintro jB jC ⟨dH,dI,dJ,dK,dL,dM,dN,dO,dP,gL,rfl,aN,gM,gN,gO⟩
       have cc:=(bb.c0 aN).t5
       refine j_o ⟨cc.hasK (l.le.trans aN.le),cc.hasObj m3⟩ (jv 4 u (rv_move u) (jv 5 u (rv_extract u u) (jv 6 u (rv_extract u u) (j1 7 u (al tf36 cc fun dQ jD gP=>?_)))))
       have cd:SH _ _ _ _ _ [obj dQ [V3 none 0 0,V3 none 0 0,V3 none 0 0] 36,_,_,_,_,_]:=gP
       refine j_o ⟨cd.hasK (l.le.trans aN.le),cd.hasObj m4⟩ (j1 8 u (lw [V3 dH dI dJ,V3 dK dL dM,V3 dN dO dP] tf36 cd fun jE ce=>(j_o ⟨ce.hasK (l.le.trans aN.le),ce.hasObj m4⟩ (jv 9 u (rv_assign u) (jd ?_)))))
       cases oi cb
       exact qd ⟨dQ,dH,dI,dJ,dK,dL,dM,dN,dO,dP,dB,dC,dD,gL,u,ce,(l.le.trans aN.le),gM,gN,gO,(dF.mono aN.le),dG⟩
      refine al tf36 bb fun dR jF gQ=>?_
      have bB:SH _ _ _ _ _ [obj dR [V3 none 0 0,V3 none 0 0,V3 none 0 0] 36,_,_,_,_]:=gQ
      refine j_o ⟨bB.hasK l.le,bB.hasObj m3⟩ (j1 3 u (lk co48 (ok_spec_IndexMerge F bB.enter0 (G.mono (c.le.trans l.le)) (H.mono (c.le.trans l.le)) (I.mono (c.le.trans l.le)) dE ca) ?_))
      rintro jG jH ⟨dS,dT,dU,dV,dW,dX,dY,dZ,ea,gR,rfl,bc,gS,gT,gU⟩
      have cf:=(bB.c0 bc).t6
      refine j_o ⟨cf.hasK (l.le.trans bc.le),cf.hasObj m4⟩ (jv 4 u (rv_move u) (jv 5 u (rv_extract u u) (jv 6 u (rv_extract u u) (j1 8 u (lw [V3 dS dT dU,V3 dV dW dX,V3 dY dZ ea] tf36 cf.f1 fun jI cg=>(j_o ⟨cg.hasK (l.le.trans bc.le),cg.hasObj m4⟩ (jv 9 u (rv_assign u) (jd ?_))))))))
      cases oi cb
      exact qd ⟨dR,dS,dT,dU,dV,dW,dX,dY,dZ,ea,dB,dC,dD,gR,u,cg,(l.le.trans bc.le),gS,gT,gU,(dF.mono bc.le),dG⟩
     refine al tf36 ba fun eb jJ gV=>?_
     have ch:SH _ _ _ _ _ [obj eb [V3 none 0 0,V3 none 0 0,V3 none 0 0] 36,_,_,_,_]:=gV
     refine j_o ⟨ch.hasK kr,ch.hasObj m3⟩ (j1 2 u ?_)
     have ec:=ch.f1
     refine lk co106 (ok_spec_l30Rd_pick F ec.e1 aw ax (by decide :rng64 3) dA) ?_
     rintro jK jL ⟨gW,gX,gY,jM,rfl,U,gZ,hb,hc⟩
     have bC:=(ec.c1 U).t5
     refine j_o ⟨bC.hasK U.le,bC.hasObj m3⟩ (j1 3 u (lk co48 (ok_spec_IndexMerge F bC.enter0 (G.mono (c.le.trans U.le)) (H.mono (c.le.trans U.le)) (I.mono (c.le.trans U.le)) gZ ca) ?_))
     rintro jN jO ⟨ed,ee,ef,eg,eh,ei,ej,ek,el,hd,rfl,bd,he,hf,hg⟩
     have cj:=(bC.c0 bd).t6
     refine j_o ⟨cj.hasK (U.le.trans bd.le),cj.hasObj m4⟩ (jv 4 u (rv_move u) (jv 5 u (rv_extract u u) (jv 6 u (rv_extract u u) (j1 8 u (lw [V3 ed ee ef,V3 eg eh ei,V3 ej ek el] tf36 cj.f2 fun jP ck=>(j_o ⟨ck.hasK (U.le.trans bd.le),ck.hasObj m4⟩ (jv 9 u (rv_assign u) (jd ?_))))))))
     cases oi cb
     exact qd ⟨eb,ed,ee,ef,eg,eh,ei,ej,ek,el,gW,gX,gY,hd,u,ck,(U.le.trans bd.le),he,hf,hg,(hb.mono bd.le),hc⟩
    rintro _ jQ ⟨bZ,aH,aI,aJ,aK,aL,aM,ae,af,ag,bx,bz,bA,T,rfl,em,hh,hi,hj,hk,hn,ho⟩
    refine qe_seq (wc_region (lv (rv_loadmS (ds:=[V3 aH aI aJ,V3 aK aL aM,V3 ae af ag]) tf36 u m0 em u u) (lw [V3 aH aI aJ,V3 aK aL aM,V3 ae af ag] tf36 em.f4 fun jR hp=>(nb (qe_block (qe_seq (wc_region (mv u (lv (rv_sub u u) ?_)))))))))
    refine av u (wl_nil ?_)
    cases oi gJ
    exact qd ⟨_,u,bx,bz,bA,aH,aI,aJ,aK,aL,aM,ae,af,ag,T,u,hp.f2.f1.f4.f4.s,((bp.trans c.le).trans hh),(w64_rng _),hn,ho,hi,hj,hk⟩
   refine wc_seq ?_
   obtain⟨aO,hq,hr⟩:=ob bY
   refine wc_cutg (fun E' w'=>∃cl aP aQ aR aS aT aU ah ai aj bD bE bF V,E'=[(0,pt g1),(2,pt D),(3,pt o),(4,V6 C.1),(9,pt cl)]∧SH w K Z w' V [obj cl [V3 aP aQ aR,V3 aS aT aU,V3 ah ai aj] 36,tail (V3 ah ai aj) 73 3,obj g1 [V3 bD bE bF,V6 aO.2.p_] 208,obj D [V3 none 0 0,V3 none 0 0,V3 none 0 0] 36,obj o [V3 q s v,V3 x y B,V3 d f i] 36,tail (V3 d f i) 73 3]∧KLe au V∧SliceAt tStr V aP aQ aR aO.1.Conf.Stops∧SliceAt tGSyn V aS aT aU aO.1.Conf.Syns∧SliceAt tGLive V ah ai aj aO.1.Segs∧SliceAt tU8 V bD bE bF aO.2.b_∧rng64 aO.2.p_) ?_ ?_
   ·obtain⟨jS,en,ht⟩:=ob hq
    obtain⟨jT,cm,cn⟩:=ob ht
    have be:=bL.drew
    refine j_0 (fun w'=>Holds au w'∧HasObj o [V3 q s v,V3 x y B,V3 d f i] w') 10 [] mixed ⟨be.hasK kr,be.hasObj m2⟩ (jh 0 u (fun _ h=>rh_loadmS (ds:=[V3 q s v,V3 x y B,V3 d f i]) tf36 u u u h.2) (jv 1 u (rv_move u) (j2 2 7 u u ?_ ?_)))
    ·refine lk co181 (ok_spec_l30Docs F be.e1 aw ax en) ?_
     rintro jU jV ⟨jW,jX,jY,eo,ep,eq,jZ,rfl,m,es,et,eu⟩
     have bf:=(be.c1 m).t5
     refine j_o ⟨bf.hasK m.le,bf.hasObj m3⟩ (j2 3 7 u u ?_ ?_)
     ·refine lk co55 (ok_spec_IndexAdd F bf.enter0 (G.mono (c.le.trans m.le)) (H.mono (c.le.trans m.le)) (I.mono (c.le.trans m.le)) es cm) ?_
      rintro ka kb ⟨ev,ew,ex,eA,eB,eC,eD,eE,eF,hu,rfl,aV,hv,hw,hx⟩
      have cp:=(bf.c0 aV).t6
      refine j_o ⟨cp.hasK (m.le.trans aV.le),cp.hasObj m4⟩ (jv 4 u (rv_move u) (jv 5 u (rv_extract u u) (jv 6 u (rv_extract u u) (j1 7 u (al tf36 cp fun eG ke hy=>?_)))))
      have cq:SH _ _ _ _ _ [obj eG [V3 none 0 0,V3 none 0 0,V3 none 0 0] 36,_,_,_,_,_,_]:=hy
      refine j_o ⟨cq.hasK (m.le.trans aV.le),cq.hasObj m5⟩ (j1 8 u (lw [V3 ev ew ex,V3 eA eB eC,V3 eD eE eF] tf36 cq fun kf cr=>(j_o ⟨cr.hasK (m.le.trans aV.le),cr.hasObj m5⟩ (jv 9 u (rv_assign u) (jd ?_)))))
      cases oi cn
      exact qd ⟨eG,ev,ew,ex,eA,eB,eC,eD,eE,eF,eo,ep,eq,hu,u,cr.s,(m.le.trans aV.le),hv,hw,hx,(et.mono aV.le),eu⟩
     refine al tf36 bf fun eH ki hz=>?_
     have bG:SH _ _ _ _ _ [obj eH [V3 none 0 0,V3 none 0 0,V3 none 0 0] 36,_,_,_,_,_]:=hz
     refine j_o ⟨bG.hasK m.le,bG.hasObj m4⟩ (j1 3 u (lk co55 (ok_spec_IndexAdd F bG.enter0 (G.mono (c.le.trans m.le)) (H.mono (c.le.trans m.le)) (I.mono (c.le.trans m.le)) es cm) ?_))
     rintro kj kk ⟨eI,eJ,eK,eL,eM,eN,eO,eP,eQ,hA,rfl,bg,hB,hC,hD⟩
     have cs:=(bG.c0 bg).t7
     refine j_o ⟨cs.hasK (m.le.trans bg.le),cs.hasObj m5⟩ (jv 4 u (rv_move u) (jv 5 u (rv_extract u u) (jv 6 u (rv_extract u u) (j1 8 u (lw [V3 eI eJ eK,V3 eL eM eN,V3 eO eP eQ] tf36 cs.f1 fun kl ct=>(j_o ⟨ct.hasK (m.le.trans bg.le),ct.hasObj m5⟩ (jv 9 u (rv_assign u) (jd ?_))))))))
     cases oi cn
     exact qd ⟨eH,eI,eJ,eK,eL,eM,eN,eO,eP,eQ,eo,ep,eq,hA,u,ct.s,(m.le.trans bg.le),hB,hC,hD,(et.mono bg.le),eu⟩
    refine al tf36 be fun eR ko hE=>?_
    have cu:SH _ _ _ _ _ [obj eR [V3 none 0 0,V3 none 0 0,V3 none 0 0] 36,_,_,_,_]:=hE
    refine j_o ⟨cu.hasK kr,cu.hasObj m3⟩ (j1 2 u ?_)
    have eS:=cu.f1
    refine lk co181 (ok_spec_l30Docs F eS.e1 aw ax en) ?_
    rintro kp kq ⟨ks,kt,kw,hF,hG,hH,kx,rfl,W,hI,hJ,hK⟩
    have bH:=(eS.c1 W).t6
    refine j_o ⟨bH.hasK W.le,bH.hasObj m4⟩ (j1 3 u (lk co55 (ok_spec_IndexAdd F bH.enter0 (G.mono (c.le.trans W.le)) (H.mono (c.le.trans W.le)) (I.mono (c.le.trans W.le)) hI cm) ?_))
    rintro ky kz ⟨eT,eU,eV,eW,eX,eY,eZ,fb,fc,hL,rfl,bh,hM,hN,hO⟩
    have cv:=(bH.c0 bh).t7
    refine j_o ⟨cv.hasK (W.le.trans bh.le),cv.hasObj m5⟩ (jv 4 u (rv_move u) (jv 5 u (rv_extract u u) (jv 6 u (rv_extract u u) (j1 8 u (lw [V3 eT eU eV,V3 eW eX eY,V3 eZ fb fc] tf36 cv.f3 fun kA cw=>(j_o ⟨cw.hasK (W.le.trans bh.le),cw.hasObj m5⟩ (jv 9 u (rv_assign u) (jd ?_))))))))
    cases oi cn
    exact qd ⟨eR,eT,eU,eV,eW,eX,eY,eZ,fb,fc,hF,hG,hH,hL,u,cw.s,(W.le.trans bh.le),hM,hN,hO,(hJ.mono bh.le),hK⟩
   rintro _ kB ⟨cl,aP,aQ,aR,aS,aT,aU,ah,ai,aj,bD,bE,bF,V,rfl,fd,hP,hQ,hR,hT,hU,hV⟩
   refine qe_seq (wc_region (lv (rv_loadmS (ds:=[V3 aP aQ aR,V3 aS aT aU,V3 ah ai aj]) tf36 u m0 fd u u) (lw [V3 aP aQ aR,V3 aS aT aU,V3 ah ai aj] tf36 fd.f4 fun kC hW=>(nb (qe_block (qe_seq (wc_region (mv u (lv (rv_sub u u) ?_)))))))))
   refine av u (wl_nil ?_)
   cases oi hr
   exact qd ⟨_,u,bD,bE,bF,aP,aQ,aR,aS,aT,aU,ah,ai,aj,V,u,hW.f2.f1.f4.f4.s,((bp.trans c.le).trans hP),(w64_rng _),hU,hV,hQ,hR,hT⟩
  refine wc_exit (qe_then_exit (qe_then_exit ?_))
  cases oi bK
  cases fR _ u
  refine qe_block_eq ?_
  cases oi fO
  exact qd ⟨bm,bn,bo,q,s,v,x,y,B,d,f,i,O,u,bJ,bp,cK,cL,G,H,I⟩
 rintro _ kD ⟨bj,bk,bl,am,an,ao,ap,aq,ar,X,Y,aa,J,rfl,fe,kE,hX,hY,hZ,ia,ib⟩
 refine qr (lv (rv_loadmS (ds:=[V3 am an ao,V3 ap aq ar,V3 X Y aa]) tf36 u m2 fe u u) (lw [V3 am an ao,V3 ap aq ar,V3 X Y aa] tf36 fe.f1 fun kF fg=>(nq (wc_ret ?_))))
 cases oi fM
 exact ez results169 tf36 fg m0 ⟨am,an,ao,ap,aq,ar,X,Y,aa,bj,bk,bl,J,u,fg.f1.f3.s,hZ,ia,ib,hX,hY⟩

theorem ok_spec_l30Rd_one {q0:GL30Rd}{q1:List Int}{r:Int×GL30Rd}(hS:SH w K Z w K [obj g1 [V3 A a b,V6 q0.p_] 208])(l:SliceAt tU8 K A a b q0.b_)(m:rng64 q0.p_)(f:SliceAt tInt K B c d q1)(hm:M.spec_l30Rd_one F q0 q1=some r):
  Calls prog 170 #[.pointer (some ⟨g1,0,none⟩),V3 B c d] w fun e w'=>∃a_2 n_3 c_4 K',e= .returned (V6 r.1)∧SH w K Z w' K' [obj g1 [V3 a_2 n_3 c_4,V6 r.2.p_] 208]∧rng64 r.1∧SliceAt tU8 K' a_2 n_3 c_4 r.2.b_∧rng64 r.2.p_:=by
 rw [M.spec_l30Rd_one] at hm
 refine ci func170 u ntmps170 (sr (lv (r_0 u) (nr (mv u (mv u (mv u (lv (rv_len underlying71 u f) ?_)))))))
 obtain⟨W,o,q⟩:=ob hm
 refine lk co106 (ok_spec_l30Rd_pick F hS.e1 l m f.rn o) ?_
 rintro X Y ⟨s,x,y,C,rfl,i,aa,D,G⟩
 have k:=(hS.c1 i).t1
 obtain⟨H,I,J⟩:=ob q
 refine li underlying71 tf3 (f.mono i.le) I fun O R ab S T=>?_
 obtain⟨rfl,U⟩:=S
 have V:AtK _ O R [V6 H]:=T
 refine lv (rv_load1 tf3 u k (V 0 _ u)) (av u (nq (wc_ret ?_)))
 cases oi J
 exact ey results170 ⟨s,x,y,C,u,k,U,D,G⟩

theorem ok_spec_l30AnyIndex {q0:GL30Rd}{r:GIndex×GL30Rd}(hS:SH w K Z w K [obj g1 [V3 A a b,V6 q0.p_] 208])(bV:SliceAt tU8 K A a b q0.b_)(bW:rng64 q0.p_)(hm:M.spec_l30AnyIndex F q0=some r):
  Calls prog 103 #[.pointer (some ⟨g1,0,none⟩)] w fun e w'=>∃a_1 n_2 c_3 a_5 n_6 c_7 a_9 n_10 c_11 a_13 n_14 c_15 K',e= .returned (.agg #[V3 a_1 n_2 c_3,V3 a_5 n_6 c_7,V3 a_9 n_10 c_11])∧SH w K Z w' K' [tail (V3 a_9 n_10 c_11) 73 3,obj g1 [V3 a_13 n_14 c_15,V6 r.2.p_] 208]∧SliceAt tStr K' a_1 n_2 c_3 r.1.Conf.Stops∧SliceAt tGSyn K' a_5 n_6 c_7 r.1.Conf.Syns∧SliceAt tGLive K' a_9 n_10 c_11 r.1.Segs∧SliceAt tU8 K' a_13 n_14 c_15 r.2.b_∧rng64 r.2.p_:=by
 rw [M.spec_l30AnyIndex] at hm
 refine ci func103 rfl ntmps103 (sr (al tf36 hS fun g7 w9 bY=>?_))
 have bZ:SH _ _ _ _ _ [obj g7 [V3 none 0 0,V3 none 0 0,V3 none 0 0] 36,_]:=bY
 refine nr (mv rfl ?_)
 obtain⟨eK,ca,cb⟩:=ob hm
 have bp:=bZ.f1
 refine lk co169 (ok_spec_l30Index F bp.e1 bV bW ca) ?_
 rintro eL eM ⟨eN,eO,eP,eQ,eR,eS,eT,eU,eV,cc,cd,ce,eW,rfl,cf,cg,ch,cj,bq,br⟩
 have bs:=(bp.c1 cf).t3
 obtain⟨eX,ck,cl⟩:=ob cb
 refine lk co110 ((own_spec_l18Copy F) bs.enter0 cg ch cj ck) ?_
 rintro eY eZ ⟨c,f,i,k,l,m,o,x,y,cs55,fb,rfl,aQ,S,T,hrow56,hm57⟩
 have cm:=(bs.c0 aQ).t5
 refine al tf36 cm fun aq fc cn=>?_
 have cp:SH _ _ _ _ _ [obj aq [V3 none 0 0,V3 none 0 0,V3 none 0 0] 36,_,_,_,_,_]:=cn
 refine lw [V3 c f i,V3 k l m,V3 o x y] tf36 cp fun fd R=>(nsr (fl ff36_1 rfl tf34 m0 R rfl (lv (rv_lenRow underlying34 rfl hm57) (lv (rv_gtr rfl rfl) (nq (wcc cl rfl (fun cq aR=>?_) (fun cq aR=>?_)))))))
 ·refine sr (mv rfl (fl ff36_1 rfl tf34 m0 R rfl (lv (rv_lenRow underlying34 rfl hm57) ?_)))
  obtain⟨H,cr,ct⟩:=ob aR
  have bu:=R.f4
  refine lk co106 (ok_spec_l30Rd_pick F bu.e1 (bq.mono aQ.le) br (rng_nat (rowI_max R m1 hm57)) cr) ?_
  rintro fe fg ⟨fh,fi,fj,fk,rfl,q,fm,cu,cv⟩
  have bv:=(bu.c1 q).t6
  refine av rfl (nr (mv rfl ?_))
  obtain⟨fn,cw,cx⟩:=ob ct
  refine lk co106 (ok_spec_l30Rd_pick F bv.e1 cu cv (by decide :rng64 16) cw) ?_
  rintro fo fp ⟨aS,aT,aU,aV,rfl,s,fq,ar,au⟩
  have U:=(bv.c1 s).t6
  refine nq (wc_block (sr (lv (rv_eql rfl rfl) (av rfl (nq (wcc cx rfl (fun cy aW=>?_) (fun cy aW=>?_)))))))
  ·have V:=U.drew
   refine wh1 (fun w'=>Holds aV w'∧HasObj aq [V3 c f i,V3 k l m,V3 o x y] w') (fun w'=>HasRow o cs55 w') 16 [(8,13),(8,14),(8,15),(8,16),(13,14),(13,15),(13,16),(14,15),(15,16)] mixed ⟨V.hasK kr,V.hasObj m1⟩ (fun _=>V.hasRow (.tail _ (.tail _ (.head _)))) (gt (rv_fieldAddr ff36_1 rfl) (gh (fun _ h=>rh_loadm1 tf34 rfl rfl h.2) (gt (rv_move rfl) (gt (rv_fieldAddr ff36_1 rfl) (gh (fun _ h=>rh_loadm1 tf34 rfl rfl h.2) (gt (rv_move rfl) ?_))))))
   obtain⟨fr,aX,cz⟩:=ob aW
   obtain⟨fs,bx⟩:=SH.rowI_at V m2 hm57 aX
   obtain⟨ft,cA,cB⟩:=RowAt.at (RowAt.mono (q.le.trans s.le) hrow56) aX
   obtain⟨cC,cD,cE,cF,cG,cH,cI,cJ,cK,rfl,fu,fv,cL⟩:=cA
   have bz: ∀(j:Nat) (d:Value),[V3 cC cD cE,V3 cF cG cH,V3 cI cJ cK][j]? =some d→cs55[H.1.toNat*tGLive.size+j]? =some d:=cB
   refine gt (rv_indexI (t:=tGLive) underlying34 tf73 rfl rfl bx hm57 aX) (gt (rv_fieldAddr ff73_1 rfl) (gf (fun _ h=>(rh_loadI1 tf71 rfl rfl (bz 2 _ rfl) bx h)) (gt (rv_move rfl) (gn (wl_buildSlice (t:=tInt) (n:=2) (pv:=[(0,V6 1),(1,V6 77)]) (cs:=[V6 1,V6 77]) (xs:=[(1:Int),(77:Int)]) wn rfl underlying71 tf3 rfl rfl rfl (by kernel_rfl) rfl rfl (lit_cons (u:=V6 1) (z:=(1:Int)) ⟨rfl,(by decide :rng64 1)⟩ (lit_cons (u:=V6 77) (z:=(77:Int)) ⟨rfl,(by decide :rng64 77)⟩ lit_nil)) V fun fw fx fy B cM aw=>(wl_nil (qh ⟨aw.hasK B,aw.hasObj m2⟩ (fun _=>aw.hasRow (.tail _ (.tail _ (.tail _ (.head _))))) (gn ?_))))))))
   obtain⟨aY,cN,cO⟩:=ob cz
   have bA:=aw.f1
   refine lk co170 (ok_spec_l30Rd_one F bA.e1 (ar.mono B) au cM cN) ?_
   rintro fz fA ⟨cP,cQ,cR,fB,rfl,C,cS,cT,cU⟩
   have ax:=(bA.c1 C).t7
   refine wl_nil (qh ⟨ax.hasK (B.trans C.le),ax.hasObj m2⟩ (fun _=>ax.hasRow (.tail _ (.tail _ (.tail _ (.head _))))) (gn (lb tInt (V6 aY.1) [V6 aY.1] aY.1 underlying71 tf3 ⟨rfl,cS⟩ ax fun fC fD fE D cV ay=>(wl_nil (qh ⟨ay.hasK ((B.trans C.le).trans D),ay.hasObj m3⟩ (fun _=>ay.hasRow (.tail _ (.tail _ (.tail _ (.tail _ (.head _)))))) (gn ?_))))))
   have cW:=SH.pickI ay.f5 bz
   obtain⟨bB,cX,cY⟩:=ob cO
   refine lp underlying71 tf3 (cL.mono ((B.trans C.le).trans D)) cV cX cW fun aZ ba bb fF fG I cZ W=>(wl_nil (qh ⟨W.hasK (((B.trans C.le).trans D).trans I),W.hasObj m4⟩ (fun _=>W.hasRow (.tail _ (.tail _ (.tail _ (.tail _ (.tail _ (.head _))))))) ?_))
   obtain⟨bC,X,da⟩:=ob cY
   obtain⟨fH,bD⟩:=SH.rowI_at W m5 hm57 X
   obtain⟨fI,db,dc⟩:=RowAt.at (RowAt.mono (((((q.le.trans s.le).trans B).trans C.le).trans D).trans I) hrow56) X
   obtain⟨az,aA,aB,aC,aD,aE,bE,bF,bG,rfl,dd,de,fJ⟩:=db
   have df: ∀(j:Nat) (d:Value),[V3 az aA aB,V3 aC aD aE,V3 bE bF bG][j]? =some d→cs55[H.1.toNat*tGLive.size+j]? =some d:=dc
   refine gt (rv_indexI (t:=tGLive) underlying34 tf73 rfl rfl bD hm57 X) (gt (rv_fieldAddr ff73_1 rfl) (gn (wl_storeI (t:=tGLive) (off:=2) (ds:=[V3 az aA aB,V3 aC aD aE,V3 bE bF bG]) (v:=V3 aZ ba bb) (u:=.agg #[V3 az aA aB,V3 aC aD aE,V3 aZ ba bb]) (e:=(GLive.mk bC.Seg bB)) wn tf71 rfl rfl rfl rfl (by simp [Value.cells,Value.oneCell']) bD W.f5 (RowAt.mono (((((q.le.trans s.le).trans B).trans C.le).trans D).trans I) hrow56) hm57 X df rfl rfl ⟨az,aA,aB,aC,aD,aE,aZ,ba,bb,rfl,dd,de,cZ⟩ fun cs185 fK hrow187 hm188 aF=>?_)))
   have dg:=getI_set (e:=(GLive.mk bC.Seg bB)) X
   obtain⟨fL,dh,di⟩:=RowAt.at hrow187 dg
   obtain⟨dj,dk,dl,dm,dn,dp,dq,dr,dt,rfl,fM,fN,fO⟩:=dh
   have fP: ∀(j:Nat) (d:Value),[V3 dj dk dl,V3 dm dn dp,V3 dq dr dt][j]? =some d→cs185[H.1.toNat*tGLive.size+j]? =some d:=di
   refine wl_nil (qh ⟨aF.hasK (((B.trans C.le).trans D).trans I),aF.hasObj m5⟩ (fun h=>nomatch h) (gd' (qe_block (qr (lv (rv_loadmS (ds:=[V3 c f i,V3 k l m,V3 o x y]) tf36 rfl m5 aF rfl rfl) (lw [V3 c f i,V3 k l m,V3 o x y] tf36 aF.f7 fun fQ du=>(nq (wc_ret ?_))))))))
   obtain⟨dv,bc,dw,bH⟩:=SH.freezeI du.f1 hrow187 hm188
   cases oi da
   exact ez results103 tf36 bH m1 ⟨c,f,i,k,l,m,o,x,y,cP,cQ,cR,dv,rfl,bH.s,(SliceAt.mono ((((((q.le.trans s.le).trans B).trans C.le).trans D).trans I).trans bc) S),(SliceAt.mono ((((((q.le.trans s.le).trans B).trans C.le).trans D).trans I).trans bc) T),dw,(cT.mono ((D.trans I).trans bc)),cU⟩
  refine sr (lv (rv_eql rfl rfl) (av rfl (nq (wcc aW rfl (fun dx bd=>?_) (fun dx bd=>?_)))))
  ·have Y:=U.drew
   refine wh1 (fun w'=>Holds aV w') (fun w'=>HasObj aq [V3 c f i,V3 k l m,V3 o x y] w'∧HasRow o cs55 w') 8 [(1,8),(3,5),(5,6),(6,7),(7,8)] mixed (Y.hasK kr) (fun _=>⟨Y.hasObj m1,Y.hasRow m2⟩) (gt (rv_fieldAddr ff36_1 rfl) (gf (fun _ h=>rh_loadm1 tf34 rfl rfl h.1) (gt (rv_fieldAddr ff36_1 rfl) (gf (fun _ h=>rh_loadm1 tf34 rfl rfl h.1) (gt (rv_move rfl) ?_)))))
   obtain⟨dy,be,dz⟩:=ob bd
   obtain⟨fR,bI⟩:=SH.rowI_at Y m2 hm57 be
   obtain⟨fS,dA,dB⟩:=RowAt.at (RowAt.mono (q.le.trans s.le) hrow56) be
   obtain⟨aa,ab,ac,ad,ae,af,ag,ah,ai,rfl,dC,dD,dE⟩:=dA
   have dF: ∀(j:Nat) (d:Value),[V3 aa ab ac,V3 ad ae af,V3 ag ah ai][j]? =some d→cs55[H.1.toNat*tGLive.size+j]? =some d:=dB
   refine gt (rv_indexI (t:=tGLive) underlying34 tf73 rfl rfl bI hm57 be) (gf (fun _ h=>(rh_loadIS (ds:=[V3 aa ab ac,V3 ad ae af,V3 ag ah ai]) tf73 rfl dF rfl bI h.2)) (gn (lb tGLive (.agg #[V3 aa ab ac,V3 ad ae af,V3 ag ah ai]) [V3 aa ab ac,V3 ad ae af,V3 ag ah ai] dy underlying34 tf73 ⟨aa,ab,ac,ad,ae,af,ag,ah,ai,rfl,dC,dD,dE⟩ Y fun fT fU fV J dG aG=>(wl_nil (qh (aG.hasK J) (fun _=>⟨aG.hasObj m2,aG.hasRow m3⟩) (gn ?_))))))
   obtain⟨fW,dH,dI⟩:=ob dz
   refine wl_appendR (t:=tGLive) wn rfl underlying34 tf73 rfl rfl rfl rfl (RowAt.mono ((q.le.trans s.le).trans J) hrow56) hm57 dG dH aG.f3 fun aj ak am cs254 fX hrow256 hm257 bJ=>(wl_nil (qh (bJ.hasK J) (fun h=>nomatch h) (gt (rv_fieldAddr ff36_1 rfl) (gn (ls [V3 c f i,V3 k l m,V3 aj ak am] (V3 aj ak am) tf34 bJ.f3 fun fY bf=>(wl_nil (qh (bf.hasK J) (fun h=>nomatch h) (gd' (qe_block (qr (lv (rv_loadmS (ds:=[V3 c f i,V3 k l m,V3 aj ak am]) tf36 rfl m0 bf rfl rfl) ?_)))))))))))
   refine lw [V3 c f i,V3 k l m,V3 aj ak am] tf36 bf.f6 fun fZ dJ=>(nq (wc_ret ?_))
   obtain⟨dK,bg,dL,bK⟩:=SH.freezeI dJ.f2 hrow256 hm257
   cases oi dI
   exact ez results103 tf36 bK m1 ⟨c,f,i,k,l,m,aj,ak,am,aS,aT,aU,dK,rfl,bK.s,(SliceAt.mono (((q.le.trans s.le).trans J).trans bg) S),(SliceAt.mono (((q.le.trans s.le).trans J).trans bg) T),dL,(ar.mono (J.trans bg)),au⟩
  refine sr (lv (rv_eql rfl rfl) (av rfl (nq (wcc bd rfl (fun dM bh=>?_) (fun dM bh=>?_)))))
  ·have an:=U.drew
   refine wh1 (fun w'=>Holds aV w'∧HasObj aq [V3 c f i,V3 k l m,V3 o x y] w') (fun w'=>HasRow o cs55 w') 16 [(9,12),(9,13),(9,14),(9,15),(9,16),(12,13),(12,14),(12,15),(12,16),(13,14),(14,15),(15,16)] mixed ⟨an.hasK kr,an.hasObj m1⟩ (fun _=>an.hasRow (.tail _ (.tail _ (.head _)))) (gt (rv_fieldAddr ff36_1 rfl) (gh (fun _ h=>rh_loadm1 tf34 rfl rfl h.2) (gt (rv_move rfl) (gt (rv_fieldAddr ff36_1 rfl) (gh (fun _ h=>rh_loadm1 tf34 rfl rfl h.2) (gt (rv_move rfl) ?_))))))
   obtain⟨ga,bi,dN⟩:=ob bh
   obtain⟨gb,bL⟩:=SH.rowI_at an m2 hm57 bi
   obtain⟨gc,dO,dP⟩:=RowAt.at (RowAt.mono (q.le.trans s.le) hrow56) bi
   obtain⟨dQ,dR,dS,dT,dU,dV,dW,dX,dY,rfl,gd,dZ,ge⟩:=dO
   have bM: ∀(j:Nat) (d:Value),[V3 dQ dR dS,V3 dT dU dV,V3 dW dX dY][j]? =some d→cs55[H.1.toNat*tGLive.size+j]? =some d:=dP
   refine gt (rv_indexI (t:=tGLive) underlying34 tf73 rfl rfl bL hm57 bi) (gt (rv_fieldAddr ff73_0 rfl) (gt (rv_fieldAddr ff46_1 rfl) (gf (fun _ h=>(rh_loadI1 tf44 rfl rfl (bM 1 _ rfl) bL h)) (gt (rv_build (cs:=#[sv [],sv [],V3 none 0 0]) sp116 tf116 rfl (by kernel_rfl)) (gn (lb tGEntry (.agg #[sv [],sv [],V3 none 0 0]) [sv [],sv [],V3 none 0 0] (GEntry.mk ([]:Str) ([]:Str) ([]:List GPost)) underlying44 tf116 ⟨none,0,0,rfl,(by decide :([]:Str).length≤maxLen),(by decide :([]:Str).length≤maxLen),(SliceAt.nil _ _)⟩ an fun gg gj gk G ea aH=>(wl_nil (qh ⟨aH.hasK G,aH.hasObj m2⟩ (fun _=>aH.hasRow (.tail _ (.tail _ (.tail _ (.head _))))) (gn ?_)))))))))
   have eb:=SH.pickE aH.f4 bM
   obtain⟨bN,ec,ed⟩:=ob dN
   refine lp underlying44 tf116 (dZ.mono G) ea ec eb fun bj bk bl gl gm O ee ao=>(wl_nil (qh ⟨ao.hasK (G.trans O),ao.hasObj m3⟩ (fun _=>ao.hasRow (.tail _ (.tail _ (.tail _ (.tail _ (.head _)))))) ?_))
   obtain⟨aI,ap,ef⟩:=ob ed
   obtain⟨go,bO⟩:=SH.rowI_at ao m4 hm57 ap
   obtain⟨gp,eg,eh⟩:=RowAt.at (RowAt.mono (((q.le.trans s.le).trans G).trans O) hrow56) ap
   obtain⟨aJ,aK,aL,bP,bQ,bR,aM,aN,aO,rfl,ei,gq,ej⟩:=eg
   have ek: ∀(j:Nat) (d:Value),[V3 aJ aK aL,V3 bP bQ bR,V3 aM aN aO][j]? =some d→cs55[H.1.toNat*tGLive.size+j]? =some d:=eh
   refine gt (rv_indexI (t:=tGLive) underlying34 tf73 rfl rfl bO hm57 ap) (gt (rv_fieldAddr ff73_0 rfl) (gt (rv_fieldAddr ff46_1 rfl) (gn (wl_storeI (t:=tGLive) (off:=1) (ds:=[V3 aJ aK aL,V3 bP bQ bR,V3 aM aN aO]) (v:=V3 bj bk bl) (u:=.agg #[V3 aJ aK aL,V3 bj bk bl,V3 aM aN aO]) (e:=(GLive.mk (GSeg.mk aI.Seg.Docs bN) aI.Dead)) wn tf44 rfl rfl rfl rfl (by simp [Value.cells,Value.oneCell']) bO ao.f4 (RowAt.mono (((q.le.trans s.le).trans G).trans O) hrow56) hm57 ap ek rfl rfl ⟨aJ,aK,aL,bj,bk,bl,aM,aN,aO,rfl,ei,ee,ej⟩ fun cs337 gr hrow339 hm340 aP=>?_))))
   have el:=getI_set (e:=(GLive.mk (GSeg.mk aI.Seg.Docs bN) aI.Dead)) ap
   obtain⟨gv,em,en⟩:=RowAt.at hrow339 el
   obtain⟨eo,ep,eq,es,et,eu,ev,ew,ex,rfl,gw,gx,gy⟩:=em
   have gz: ∀(j:Nat) (d:Value),[V3 eo ep eq,V3 es et eu,V3 ev ew ex][j]? =some d→cs337[H.1.toNat*tGLive.size+j]? =some d:=en
   refine wl_nil (qh ⟨aP.hasK (G.trans O),aP.hasObj m4⟩ (fun h=>nomatch h) (gd' (qe_block (qr (lv (rv_loadmS (ds:=[V3 c f i,V3 k l m,V3 o x y]) tf36 rfl m4 aP rfl rfl) (lw [V3 c f i,V3 k l m,V3 o x y] tf36 aP.f6 fun gA eA=>(nq (wc_ret ?_))))))))
   obtain⟨eB,bm,eC,bS⟩:=SH.freezeI eA.f1 hrow339 hm340
   cases oi ef
   exact ez results103 tf36 bS m1 ⟨c,f,i,k,l,m,o,x,y,aS,aT,aU,eB,rfl,bS.s,(SliceAt.mono ((((q.le.trans s.le).trans G).trans O).trans bm) S),(SliceAt.mono ((((q.le.trans s.le).trans G).trans O).trans bm) T),eC,(ar.mono ((G.trans O).trans bm)),au⟩
  refine wc_skip (qe_block (qr (lv (rv_loadmS (ds:=[V3 c f i,V3 k l m,V3 o x y]) tf36 rfl m1 U rfl rfl) (lw [V3 c f i,V3 k l m,V3 o x y] tf36 U.f5 fun gB eD=>(nq (wc_ret ?_))))))
  obtain⟨eE,bn,eF,bT⟩:=SH.freezeI eD.f3 (RowAt.mono (q.le.trans s.le) hrow56) hm57
  cases oi bh
  exact ez results103 tf36 bT m1 ⟨c,f,i,k,l,m,o,x,y,aS,aT,aU,eE,rfl,bT.s,(S.mono ((q.le.trans s.le).trans bn)),(T.mono ((q.le.trans s.le).trans bn)),eF,(ar.mono bn),au⟩
 refine wc_skip (qr (lv (rv_loadmS (ds:=[V3 c f i,V3 k l m,V3 o x y]) tf36 rfl m0 R rfl rfl) (lw [V3 c f i,V3 k l m,V3 o x y] tf36 R.f5 fun gC eG=>(nq (wc_ret ?_)))))
 obtain⟨eH,bo,eI,bU⟩:=SH.freezeI eG.f2 hrow56 hm57
 cases oi aR
 exact ez results103 tf36 bU m1 ⟨c,f,i,k,l,m,o,x,y,cc,cd,ce,eH,rfl,bU.s,(S.mono bo),(T.mono bo),eI,(bq.mono (aQ.le.trans bo)),br⟩

theorem ok_spec_l30Open {q0:List UInt8}{r:GL30Rd}(hS:SH w K [] w K [])(c:SliceAt tU8 K A a b q0)(hm:M.spec_l30Open F q0=some r):
  Calls prog 104 #[V3 A a b] w fun e w'=>∃g_1 a_2 n_3 c_4 K',e= .returned (.pointer (some ⟨g_1,0,none⟩))∧SH w K [] w' K' [obj g_1 [V3 a_2 n_3 c_4,V6 r.p_] 208]∧SliceAt tU8 K' a_2 n_3 c_4 r.b_∧rng64 r.p_:=by
 rw [M.spec_l30Open] at hm
 refine ci func104 u ntmps104 (sr (lv (rv_assign (v:=.pointer none) u) (nsr (mv u (lv (rv_len underlying69 u c) (lv (rv_gtr u u) (nq (wc_cond u (fun d=>?_) (fun d=>?_)))))))))
 ·have f:=cond_t d hm
  refine wc_region (mv u ?_)
  obtain⟨G,q,s⟩:=ob f
  refine wl_sl_h (t:=tU8) wn u underlying69 tf5 u u c q fun i k l x=>(av u (nr (mv u (lv (rv_build (cs:=#[V3 i k l,V6 0]) sp208 tf208 u (by kernel_rfl)) (bx u hS fun m H y=>?_)))))
  have B:SH _ _ _ _ _ [obj m [V3 i k l,V6 0] 208]:=y
  refine av u (nq (wc_ret ?_))
  cases oi s
  exact ey results104 ⟨m,i,k,l,K,u,B,x,d_0⟩
 have f:=cond_f d hm
 refine wc_skip (qr (mv u (lv (rv_build (cs:=#[V3 A a b,V6 0]) sp208 tf208 u (by kernel_rfl)) (bx u hS fun o I C=>?_))))
 have D:SH _ _ _ _ _ [obj o [V3 A a b,V6 0] 208]:=C
 refine av u (nq (wc_ret ?_))
 cases oi f
 exact ey results104 ⟨o,A,a,b,K,u,D,c,d_0⟩

theorem ok_spec_DrawIndexMerge {q0:List UInt8}{r:GIndex×Int}(hS:SH w K [] w K [])(J:SliceAt tU8 K A a b q0)(hm:M.spec_DrawIndexMerge F q0=some r):
  Calls prog 46 #[V3 A a b] w fun e w'=>∃a_1 n_2 c_3 a_5 n_6 c_7 a_9 n_10 c_11 K',e= .returned (.tuple #[.agg #[V3 a_1 n_2 c_3,V3 a_5 n_6 c_7,V3 a_9 n_10 c_11],V6 r.2])∧SH w K [] w' K' [tail (V3 a_9 n_10 c_11) 73 3]∧SliceAt tStr K' a_1 n_2 c_3 r.1.Conf.Stops∧SliceAt tGSyn K' a_5 n_6 c_7 r.1.Conf.Syns∧SliceAt tGLive K' a_9 n_10 c_11 r.1.Segs∧rng64 r.2:=by
 rw [M.spec_DrawIndexMerge] at hm
 refine ci func46 u ntmps46 (sr (al tf36 hS fun O w6 R=>?_))
 have D:SH _ _ _ _ _ [obj O [V3 none 0 0,V3 none 0 0,V3 none 0 0] 36]:=R
 refine lv (r_0 u) (nr (mv u ?_))
 obtain⟨r9,S,T⟩:=ob hm
 refine lk co104 (ok_spec_l30Open F D.enter0 J S) ?_
 rintro ar au ⟨aw,ax,ay,az,aA,rfl,U,V,W⟩
 have G:=(D.c0 U).t2
 refine av u (nr (mv u ?_))
 obtain⟨aB,X,Y⟩:=ob T
 refine lk co103 (ok_spec_l30AnyIndex F G.e1 V W X) ?_
 rintro aC aD ⟨d,f,i,k,l,m,o,q,s,aE,aF,aG,aa,rfl,ab,ac,ad,ae,af,ag⟩
 have ah:=(G.c1 ab).t3
 refine al tf36 ah fun H aH ai=>?_
 have aj:SH _ _ _ _ _ [obj H [V3 none 0 0,V3 none 0 0,V3 none 0 0] 36,_,_,_]:=ai
 refine lw [V3 d f i,V3 k l m,V3 o q s] tf36 aj fun aI ak=>(ns ?_)
 have B:=ak.drew
 refine wh1 (fun w'=>Holds aa w'∧HasObj H [V3 d f i,V3 k l m,V3 o q s] w') (fun w'=>True) 6 [] mixed ⟨B.hasK kr,B.hasObj m0⟩ (fun _=>trivial) (gh (fun _ h=>rh_loadmS (ds:=[V3 d f i,V3 k l m,V3 o q s]) tf36 u u u h.2) (gt (rv_move u) (gn ?_)))
 obtain⟨aJ,am,an⟩:=ob Y
 have I:=B.f2
 refine lk co106 (ok_spec_l30Rd_pick F I.e1 af ag (by decide :rng64 4) am) ?_
 rintro aK aL ⟨aM,aN,aO,ao,rfl,x,aP,aQ,aR⟩
 have C:=(I.c1 x).t4
 refine wl_nil (qh ⟨C.hasK x.le,C.hasObj m1⟩ (fun _=>trivial) (gt (rv_sub u u) (gn (lw [V3 d f i,V3 k l m,V3 o q s] tf36 C.f3 fun aS y=>(wl_nil (qh ⟨y.hasK x.le,y.hasObj m2⟩ (fun _=>trivial) (gt (rv_assign u) (gd' (qe_seq (wc_ret ?_))))))))))
 cases oi an
 exact qe_ret (vs:=[_,_]) results46 ⟨⟨_,_,u,run_loadVar_at tf36 (cs:=[V3 d f i,V3 k l m,V3 o q s]) (fun j c e=>by rw [Nat.zero_add,y.mem_obj m0];exact e) (.inl ⟨u,u,u⟩)⟩,u,trivial⟩ ⟨d,f,i,k,l,m,o,q,s,ao,u,y.s,(ac.mono x.le),(ad.mono x.le),(ae.mono x.le),(w64_rng _)⟩

theorem ok_impl_cloneConf {q0:GConf}{r:GConf}(hS:SH w K [] w K [])(aK:SliceAt tStr K A a b q0.Stops)(aj:SliceAt tGSyn K B c d q0.Syns)(hm:M.impl_cloneConf F q0=some r):
  Calls prog 171 #[.agg #[V3 A a b,V3 B c d]] w fun e w'=>∃a_1 n_2 c_3 a_5 n_6 c_7 K',e= .returned (.agg #[V3 a_1 n_2 c_3,V3 a_5 n_6 c_7])∧SH w K [] w' K' [tail (V3 a_1 n_2 c_3) 9 1,tail (V3 a_5 n_6 c_7) 159 2]∧SliceAt tStr K' a_1 n_2 c_3 r.Stops∧SliceAt tGSyn K' a_5 n_6 c_7 r.Syns:=by
 rw [M.impl_cloneConf] at hm
 refine ci func171 u ntmps171 (sr (bx u hS fun g9 bJ aM=>?_))
 have aN:SH _ _ _ _ _ [obj g9 [V3 A a b,V3 B c d] 33]:=aM
 refine al tf33 aN fun T bK aO=>?_
 have aP:SH _ _ _ _ _ [obj T [V3 none 0 0,V3 none 0 0] 33,_]:=aO
 refine nr (b0 tStr underlying22 tf9 aP fun bL bM bN U aQ aD=>(fl ff33_0 u tf22 m2 aD u ?_))
 obtain⟨bO,aR,aS⟩:=ob hm
 refine lp underlying22 tf9 aQ (aK.mono U) aR aD fun ak am an bP bQ ao aT aU=>(b0 tGSyn underlying31 tf159 aU fun ap bR aq V aV aW=>(lv (rv_build (cs:=#[V3 ak am an,V3 ap 0 0]) sp33 tf33 u (by kernel_rfl)) (al tf33 aW fun O bS aX=>?_)))
 have aY:SH _ _ _ _ _ [obj O [V3 none 0 0,V3 none 0 0] 33,_,_,_,_]:=aX
 refine lw [V3 ak am an,V3 ap 0 0] tf33 aY fun bT aE=>(nsr (fl ff33_1 u tf31 m4 aE u (lv (rv_len underlying31 u (aj.mono ((U.trans ao).trans V))) (lv (r_m u) (nq ?_)))))
 obtain⟨aF,aZ,ba⟩:=ob aS
 refine wc_cutg (fun E' w'=>∃o q s x y C R,E'=[(2,pt T),(3,pt O)]∧SH w K [] w' R [obj T [V3 none 0 0,V3 none 0 0] 33,obj O [V3 o q s,V3 x y C] 33,tail (V3 o q s) 9 1,tail (V3 x y C) 159 2]∧KLe aq R∧SliceAt tStr R o q s aF.Stops∧SliceAt tGSyn R x y C aF.Syns) ?_ ?_
 ·refine wc_block ?_
  obtain⟨bU,bb,bc⟩:=ob aZ
  have bd:=aE.f1.f2.f2.f3.sb (sk (sk (sk (sk (sd sz)))))
  refine qF (fun (aG:Nat) (W:GConf) E' w'=>∃f i k D G H m,E'=[(2,pt T),(3,pt O),(13,V3 B c d),(14,V6 (q0.Syns.length:Int)),(15,V6 ((aG:Nat):Int))]∧SH w K [] w' m [obj T [V3 none 0 0,V3 none 0 0] 33,obj O [V3 f i k,V3 D G H] 33,tail (V3 f i k) 9 1,tail (V3 D G H) 159 2]∧KLe aq m∧SliceAt tStr m f i k W.Stops∧SliceAt tGSyn m D G H W.Syns) bb ⟨ak,am,an,ap,0,0,aq,u,bd,kr,(aT.mono V),aV⟩ ?_ ?_
  ·rintro aG W _ be bV hi84 bf ⟨f,i,k,D,G,H,m,rfl,X,Y,ar,au⟩
   refine sr (lv (rv_lss u u) (ns (wc_cond_t u (decide_eq_true (by omega)) (wc_skip (qe_seq (wc_seq (wc_block (sr ?_))))))))
   obtain⟨I,bg,bh⟩:=ob bf
   refine li underlying31 tf159 (SliceAt.mono (((U.trans ao).trans V).trans Y) aj) bg fun bi bj bW bk bl=>?_
   obtain⟨aw,ax,ay,rfl,bm,bn⟩:=bk
   have bo:AtK _ bi bj [V3 aw ax ay,sv I.To]:=bl
   refine lv (rv_loadS tf159 u X bo u) (al tf159 X fun aH bX bp=>?_)
   have bq:SH _ _ _ _ _ [obj aH [V3 none 0 0,sv []] 159,_,_,_,_]:=bp
   refine lw [V3 aw ax ay,sv I.To] tf159 bq fun bY br=>(nq ?_)
   have aa:=br.drew
   refine wj0 (fun w'=>Holds m w'∧HasObj aH [V3 aw ax ay,sv I.To] w') (fun w'=>HasObj O [V3 f i k,V3 D G H] w') 12 [(1,10),(1,11),(1,12),(10,11),(10,12),(11,12)] mixed ⟨aa.hasK kr,aa.hasObj m0⟩ (fun _=>aa.hasObj (.tail _ (.tail _ (.head _)))) (jv 0 u (rv_fieldAddr ff33_1 u) (jf 1 u (fun _ h=>rh_loadm1 tf31 u u h) (jv 3 u (rv_fieldAddr ff159_0 u) (jh 4 u (fun _ h=>rh_loadm1 tf22 u u h.2) (jv 6 u (rv_fieldAddr ff159_1 u) (jh 7 u (fun _ h=>rh_loadm1 tf9 u u h.2) (j1 2 u (b0 tStr underlying22 tf9 aa fun bZ ca cb l bs ab=>(jn ⟨ab.hasK l,ab.hasObj m1⟩ (fun _=>ab.hasObj (.tail _ (.tail _ (.tail _ (.head _))))) ?_)))))))))
   refine j1 5 u ?_
   obtain⟨bu,bv,bz⟩:=ob bh
   refine lp underlying22 tf9 bs (bm.mono l) bv ab fun ac ad ae cc cd J bA af=>(jn ⟨af.hasK (l.trans J),af.hasObj m1⟩ (fun _=>af.hasObj (.tail _ (.tail _ (.tail _ (.head _))))) (jv 8 u (rv_build (cs:=#[V3 ac ad ae,sv I.To]) sp159 tf159 u (by kernel_rfl)) (j1 9 u (lb tGSyn (.agg #[V3 ac ad ae,sv I.To]) [V3 ac ad ae,sv I.To] (GSyn.mk bu I.To) underlying31 tf159 ⟨ac,ad,ae,u,bA,bn⟩ af fun ce cf cg S bB ag=>(jn ⟨ag.hasK ((l.trans J).trans S),ag.hasObj m2⟩ (fun _=>ag.hasObj (.tail _ (.tail _ (.tail _ (.tail _ (.head _)))))) (j1 10 u ?_))))))
   obtain⟨ch,bC,bD⟩:=ob bz
   refine lp underlying31 tf159 (au.mono ((l.trans J).trans S)) bB bC ag.f6 fun az aA aB cj bE ah bF ai=>(jn ⟨ai.hasK (((l.trans J).trans S).trans ah),ai.hasObj m3⟩ (fun _=>ai.hasObj (.tail _ (.tail _ (.tail _ (.tail _ (.tail _ (.head _))))))) (jv 11 u (rv_fieldAddr ff33_1 u) (j1 12 u (ls [V3 f i k,V3 az aA aB] (V3 az aA aB) tf31 ai.f5 fun ck aC=>(jn ⟨aC.hasK (((l.trans J).trans S).trans ah),aC.hasObj m4⟩ (fun h=>nomatch h) (jd (qe_block (qg (lv (rv_add_to u u (w64_succ hi84 (SliceAt.max (aj.mono ((U.trans ao).trans V))))) ?_)))))))))
   refine mv u (wl_nil ?_)
   cases oi bD
   exact qd ⟨f,i,k,az,aA,aB,bE,u,aC.f1.f6.f2.f6.s,((((Y.trans l).trans J).trans S).trans ah),(SliceAt.mono (((l.trans J).trans S).trans ah) ar),bF⟩
  rintro W _ be bG ⟨f,i,k,D,G,H,m,rfl,X,Y,ar,au⟩
  subst bG
  refine sr (lv (rv_lss u u) (ns (wc_cond_f u (decide_eq_false (by omega)) (wc_exit (qe_then_exit (qe_then_exit (qe_block_eq ?_)))))))
  cases oi bc
  exact qd ⟨f,i,k,D,G,H,m,u,X,Y,ar,au⟩
 rintro _ cl ⟨o,q,s,x,y,C,R,rfl,aI,cm,bH,bI⟩
 refine qr (lv (rv_loadmS (ds:=[V3 o q s,V3 x y C]) tf33 u m1 aI u u) (lw [V3 o q s,V3 x y C] tf33 aI fun cn aJ=>(nq (wc_ret ?_))))
 cases oi ba
 exact ez results171 tf33 aJ m0 ⟨o,q,s,x,y,C,R,u,aJ.s,bH,bI⟩

theorem ok_impl_cloneLive {q0:GLive}{r:GLive}(hS:SH w K [] w K [])(an:SliceAt tGDoc K A a b q0.Seg.Docs)(gM:SliceAt tGEntry K B c d q0.Seg.Entries)(H:SliceAt tInt K C f i q0.Dead)(hm:M.impl_cloneLive F q0=some r):
  Calls prog 172 #[.agg #[V3 A a b,V3 B c d,V3 C f i]] w fun e w'=>∃a_1 n_2 c_3 a_5 n_6 c_7 a_9 n_10 c_11 K',e= .returned (.agg #[V3 a_1 n_2 c_3,V3 a_5 n_6 c_7,V3 a_9 n_10 c_11])∧SH w K [] w' K' [tail (V3 a_9 n_10 c_11) 3 1]∧SliceAt tGDoc K' a_1 n_2 c_3 r.Seg.Docs∧SliceAt tGEntry K' a_5 n_6 c_7 r.Seg.Entries∧SliceAt tInt K' a_9 n_10 c_11 r.Dead:=by
 rw [M.impl_cloneLive] at hm
 refine ci func172 u ntmps172 (sr (bx u hS fun cK qX mp=>?_))
 have mq:SH _ _ _ _ _ [obj cK [V3 A a b,V3 B c d,V3 C f i] 73]:=mp
 refine al tf73 mq fun aC qY mr=>?_
 have ms:SH _ _ _ _ _ [obj aC [V3 none 0 0,V3 none 0 0,V3 none 0 0] 73,_]:=mr
 refine ns ?_
 obtain⟨gN,mt,mu⟩:=ob hm
 refine wc_cutg (fun E' w'=>∃aD fb fc fd dH dI dJ dK dL dM aZ,E'=[(1,pt cK),(2,pt aC),(3,pt aD)]∧SH w K [] w' aZ [obj aD [V3 fb fc fd,V3 dH dI dJ,V3 dK dL dM] 73,tail (V3 dH dI dJ) 116 3,tail (V3 dK dL dM) 3 1,obj cK [V3 A a b,V3 B c d,V3 C f i] 73,obj aC [V3 none 0 0,V3 none 0 0,V3 none 0 0] 73]∧KLe K aZ∧SliceAt tGDoc aZ fb fc fd gN.Seg.Docs∧SliceAt tGEntry aZ dH dI dJ gN.Seg.Entries∧SliceAt tInt aZ dK dL dM gN.Dead) ?_ ?_
 ·obtain⟨qZ,ao,mw⟩:=ob mt
  obtain⟨ra,I,G⟩:=ob mw
  refine wc_held (fun w'=>Holds K w'∧HasObj cK [V3 A a b,V3 B c d,V3 C f i] w') (fun w'=>True) 13 [] mixed ?_
  have ap:=ms.drew
  refine wg_val (i:=0) (listed':=L_ 13 0) (fun _=>True) u (by kernel_rfl) (pk_then (pk_then pk_body)) (by kernel_rfl) u (by kernel_rfl) (by kernel_rfl) u (.inl fun _ _=>trivial) ⟨⟨ap.hasK kr,ap.hasObj m1⟩,(fun _=>trivial),by decide⟩ wn u (fun _ _=>(rv_fieldAddr ff73_0 u)) (wg_val (i:=1) (listed':=L_ 13 1) (fun _=>True) u (by kernel_rfl) (pk_then (pk_then pk_body)) (by kernel_rfl) u (by kernel_rfl) (by kernel_rfl) u (.inl fun _ _=>trivial) ⟨⟨ap.hasK kr,ap.hasObj m1⟩,(fun _=>trivial),by decide⟩ wn u (fun _ _=>(rv_fieldAddr ff46_0 u)) (wg_val (i:=2) (listed':=L_ 13 2) (HasObj cK [V3 A a b,V3 B c d,V3 C f i]) u (by kernel_rfl) (pk_then (pk_then pk_body)) (by kernel_rfl) u (by kernel_rfl) (by kernel_rfl) u (.inl fun _ h=>h.2) ⟨⟨ap.hasK kr,ap.hasObj m1⟩,(fun _=>trivial),by decide⟩ wn u (fun _ h=>rh_loadm1 tf43 u u h) ?_))
  refine wg_val (i:=7) (listed':=#[true,true,true,false,false,false,false,true,false,false,false,false,false]) (fun _=>True) u (by kernel_rfl) (pk_then (pk_then pk_body)) (by kernel_rfl) u (by kernel_rfl) (by kernel_rfl) u (.inl fun _ _=>trivial) ⟨⟨ap.hasK kr,ap.hasObj m1⟩,(fun _=>trivial),by decide⟩ wn u (fun _ _=>(rv_fieldAddr ff73_1 u)) (wg_val (i:=8) (listed':=#[true,true,true,false,false,false,false,true,true,false,false,false,false]) (HasObj cK [V3 A a b,V3 B c d,V3 C f i]) u (by kernel_rfl) (pk_then (pk_then pk_body)) (by kernel_rfl) u (by kernel_rfl) (by kernel_rfl) u (.inl fun _ h=>h.2) ⟨⟨ap.hasK kr,ap.hasObj m1⟩,(fun _=>trivial),by decide⟩ wn u (fun _ h=>rh_loadm1 tf71 u u h) (wg_many (l:=[3,4,6,11]) (by kernel_rfl) u ⟨⟨_,u,?_⟩,⟨_,u,?_⟩,⟨_,u,?_⟩,⟨_,u,?_⟩,trivial⟩))
  ·refine lk co72 (ok_impl_cloneDocs F ap.enter0 an ao) ?_
   rintro rb rc ⟨x,y,D,rd,rfl,m,au⟩
   have dN:=(ap.c0 m).t3
   refine wl_nil (qe_held (listed':=#[true,true,true,true,false,false,false,true,true,false,false,false,false]) u ⟨⟨dN.hasK m.le,dN.hasObj m2⟩,(fun _=>trivial),by decide⟩ (wg_many (l:=[4,6,11]) (by kernel_rfl) u ⟨⟨_,u,?_⟩,⟨_,u,?_⟩,⟨_,u,?_⟩,trivial⟩))
   ·refine b0 tGEntry underlying44 tf116 dN fun aG re rf U gO cL=>(wl_nil (qe_held (listed':=#[true,true,true,true,true,false,false,true,true,false,false,false,false]) u ⟨⟨cL.hasK (m.le.trans U),cL.hasObj m3⟩,(fun _=>trivial),by decide⟩ (wg_val (i:=5) (listed':=#[true,true,true,true,true,true,false,true,true,false,false,false,false]) (fun _=>True) u (by kernel_rfl) (pk_then (pk_then pk_body)) (by kernel_rfl) u (by kernel_rfl) (by kernel_rfl) u (.inl fun _ _=>trivial) ⟨⟨cL.hasK (m.le.trans U),cL.hasObj m3⟩,(fun _=>trivial),by decide⟩ wn u (fun _ _=>(rv_build (cs:=#[V3 x y D,V3 aG 0 0]) sp46 tf46 u (by kernel_rfl))) (wg_many (l:=[6,11]) (by kernel_rfl) u ⟨⟨_,u,?_⟩,⟨_,u,?_⟩,trivial⟩))))
    ·refine b0 tInt underlying71 tf3 cL fun rg rh ri ah lA fe=>(wl_nil (qe_held (listed':=L_ 13 8) u ⟨⟨fe.hasK ((m.le.trans U).trans ah),fe.hasObj m4⟩,(fun _=>trivial),by decide⟩ (wg_many (l:=[9,11]) (by kernel_rfl) u ⟨⟨_,u,?_⟩,⟨_,u,?_⟩,trivial⟩)))
     ·refine lp underlying71 tf3 lA (H.mono ((m.le.trans U).trans ah)) I fe fun gP gQ gR rj mx bK my dO=>(wl_nil (qe_held (listed':=L_ 13 9) u ⟨⟨dO.hasK (((m.le.trans U).trans ah).trans bK),dO.hasObj m4⟩,(fun _=>trivial),by decide⟩ (wg_val (i:=10) (listed':=L_ 13 10) (fun _=>True) u (by kernel_rfl) (pk_then (pk_then pk_body)) (by kernel_rfl) u (by kernel_rfl) (by kernel_rfl) u (.inl fun _ _=>trivial) ⟨⟨dO.hasK (((m.le.trans U).trans ah).trans bK),dO.hasObj m4⟩,(fun _=>trivial),by decide⟩ wn u (fun _ _=>(rv_build (cs:=#[V3 x y D,V3 aG 0 0,V3 gP gQ gR]) sp73 tf73 u (by kernel_rfl))) (wg_one (i:=11) (by kernel_rfl) u (al tf73 dO fun lB rk mz=>?_)))))
      have gS:SH _ _ _ _ _ [obj lB [V3 none 0 0,V3 none 0 0,V3 none 0 0] 73,_,_,_,_,_]:=mz
      refine wl_nil (qe_held (listed':=L_ 13 11) u ⟨⟨gS.hasK (((m.le.trans U).trans ah).trans bK),gS.hasObj m5⟩,(fun _=>trivial),by decide⟩ (wg_one (i:=12) (by kernel_rfl) u (lw [V3 x y D,V3 aG 0 0,V3 gP gQ gR] tf73 gS fun rl gT=>(wl_nil (qe_held (listed':=L_ 13 12) u ⟨⟨gT.hasK (((m.le.trans U).trans ah).trans bK),gT.hasObj m5⟩,(fun _=>trivial),by decide⟩ (wg_done (by kernel_rfl) ?_))))))
      cases oi G
      exact qd ⟨lB,x,y,D,aG,0,0,gP,gQ,gR,mx,u,gT.f4.f5.f3.f4.f4.s,(((m.le.trans U).trans ah).trans bK),(au.mono ((U.trans ah).trans bK)),(gO.mono (ah.trans bK)),my⟩
     refine al tf73 fe fun lC rm mA=>?_
     have gU:SH _ _ _ _ _ [obj lC [V3 none 0 0,V3 none 0 0,V3 none 0 0] 73,_,_,_,_,_]:=mA
     refine wl_nil (qe_held (listed':=#[true,true,true,true,true,true,true,true,true,false,false,true,false]) u ⟨⟨gU.hasK ((m.le.trans U).trans ah),gU.hasObj m5⟩,(fun _=>trivial),by decide⟩ (wg_one (i:=9) (by kernel_rfl) u (lp underlying71 tf3 lA (H.mono ((m.le.trans U).trans ah)) I gU.f1 fun gV gW gX ro mB cM mC dP=>(wl_nil (qe_held (listed':=#[true,true,true,true,true,true,true,true,true,true,false,true,false]) u ⟨⟨dP.hasK (((m.le.trans U).trans ah).trans cM),dP.hasObj m5⟩,(fun _=>trivial),by decide⟩ (wg_val (i:=10) (listed':=L_ 13 11) (fun _=>True) u (by kernel_rfl) (pk_then (pk_then pk_body)) (by kernel_rfl) u (by kernel_rfl) (by kernel_rfl) u (.inl fun _ _=>trivial) ⟨⟨dP.hasK (((m.le.trans U).trans ah).trans cM),dP.hasObj m5⟩,(fun _=>trivial),by decide⟩ wn u (fun _ _=>(rv_build (cs:=#[V3 x y D,V3 aG 0 0,V3 gV gW gX]) sp73 tf73 u (by kernel_rfl))) (wg_one (i:=12) (by kernel_rfl) u (lw [V3 x y D,V3 aG 0 0,V3 gV gW gX] tf73 dP.f1 fun rp gY=>?_))))))))
     refine wl_nil (qe_held (listed':=L_ 13 12) u ⟨⟨gY.hasK (((m.le.trans U).trans ah).trans cM),gY.hasObj m5⟩,(fun _=>trivial),by decide⟩ (wg_done (by kernel_rfl) ?_))
     cases oi G
     exact qd ⟨lC,x,y,D,aG,0,0,gV,gW,gX,mB,u,gY.f4.f5.f3.f4.f4.s,(((m.le.trans U).trans ah).trans cM),(au.mono ((U.trans ah).trans cM)),(gO.mono (ah.trans cM)),mC⟩
    refine al tf73 cL fun lD rq mD=>?_
    have gZ:SH _ _ _ _ _ [obj lD [V3 none 0 0,V3 none 0 0,V3 none 0 0] 73,_,_,_,_]:=mD
    refine wl_nil (qe_held (listed':=#[true,true,true,true,true,true,false,true,true,false,false,true,false]) u ⟨⟨gZ.hasK (m.le.trans U),gZ.hasObj m4⟩,(fun _=>trivial),by decide⟩ (wg_one (i:=6) (by kernel_rfl) u (b0 tInt underlying71 tf3 gZ fun rs rt ru bm mE hb=>(wl_nil (qe_held (listed':=#[true,true,true,true,true,true,true,true,true,false,false,true,false]) u ⟨⟨hb.hasK ((m.le.trans U).trans bm),hb.hasObj m5⟩,(fun _=>trivial),by decide⟩ (wg_one (i:=9) (by kernel_rfl) u (lp underlying71 tf3 mE (H.mono ((m.le.trans U).trans bm)) I hb fun hc hd he rv mF cN mG dQ=>(wl_nil (qe_held (listed':=#[true,true,true,true,true,true,true,true,true,true,false,true,false]) u ⟨⟨dQ.hasK (((m.le.trans U).trans bm).trans cN),dQ.hasObj m5⟩,(fun _=>trivial),by decide⟩ ?_)))))))))
    refine wg_val (i:=10) (listed':=L_ 13 11) (fun _=>True) u (by kernel_rfl) (pk_then (pk_then pk_body)) (by kernel_rfl) u (by kernel_rfl) (by kernel_rfl) u (.inl fun _ _=>trivial) ⟨⟨dQ.hasK (((m.le.trans U).trans bm).trans cN),dQ.hasObj m5⟩,(fun _=>trivial),by decide⟩ wn u (fun _ _=>(rv_build (cs:=#[V3 x y D,V3 aG 0 0,V3 hc hd he]) sp73 tf73 u (by kernel_rfl))) (wg_one (i:=12) (by kernel_rfl) u (lw [V3 x y D,V3 aG 0 0,V3 hc hd he] tf73 dQ.f1 fun rx hf=>(wl_nil (qe_held (listed':=L_ 13 12) u ⟨⟨hf.hasK (((m.le.trans U).trans bm).trans cN),hf.hasObj m5⟩,(fun _=>trivial),by decide⟩ (wg_done (by kernel_rfl) ?_)))))
    cases oi G
    exact qd ⟨lD,x,y,D,aG,0,0,hc,hd,he,mF,u,hf.f4.f5.f3.f4.f4.s,(((m.le.trans U).trans bm).trans cN),(au.mono ((U.trans bm).trans cN)),(gO.mono (bm.trans cN)),mG⟩
   ·refine b0 tInt underlying71 tf3 dN fun ry rz rA q dR dS=>(wl_nil (qe_held (listed':=#[true,true,true,true,false,false,true,true,true,false,false,false,false]) u ⟨⟨dS.hasK (m.le.trans q),dS.hasObj m3⟩,(fun _=>trivial),by decide⟩ (wg_many (l:=[4,9,11]) (by kernel_rfl) u ⟨⟨_,u,?_⟩,⟨_,u,?_⟩,⟨_,u,?_⟩,trivial⟩)))
    ·refine b0 tGEntry underlying44 tf116 dS fun bL rB rC ad lE cO=>(wl_nil (qe_held (listed':=#[true,true,true,true,true,false,true,true,true,false,false,false,false]) u ⟨⟨cO.hasK ((m.le.trans q).trans ad),cO.hasObj m4⟩,(fun _=>trivial),by decide⟩ (wg_val (i:=5) (listed':=L_ 13 8) (fun _=>True) u (by kernel_rfl) (pk_then (pk_then pk_body)) (by kernel_rfl) u (by kernel_rfl) (by kernel_rfl) u (.inl fun _ _=>trivial) ⟨⟨cO.hasK ((m.le.trans q).trans ad),cO.hasObj m4⟩,(fun _=>trivial),by decide⟩ wn u (fun _ _=>(rv_build (cs:=#[V3 x y D,V3 bL 0 0]) sp46 tf46 u (by kernel_rfl))) (wg_many (l:=[9,11]) (by kernel_rfl) u ⟨⟨_,u,?_⟩,⟨_,u,?_⟩,trivial⟩))))
     ·have mH:=cO.f1
      refine lp underlying71 tf3 (dR.mono ad) (H.mono ((m.le.trans q).trans ad)) I mH fun hg hh hi rD mI bM mJ dT=>(wl_nil (qe_held (listed':=L_ 13 9) u ⟨⟨dT.hasK (((m.le.trans q).trans ad).trans bM),dT.hasObj m4⟩,(fun _=>trivial),by decide⟩ (wg_val (i:=10) (listed':=L_ 13 10) (fun _=>True) u (by kernel_rfl) (pk_then (pk_then pk_body)) (by kernel_rfl) u (by kernel_rfl) (by kernel_rfl) u (.inl fun _ _=>trivial) ⟨⟨dT.hasK (((m.le.trans q).trans ad).trans bM),dT.hasObj m4⟩,(fun _=>trivial),by decide⟩ wn u (fun _ _=>(rv_build (cs:=#[V3 x y D,V3 bL 0 0,V3 hg hh hi]) sp73 tf73 u (by kernel_rfl))) (wg_one (i:=11) (by kernel_rfl) u (al tf73 dT fun lF rE mK=>?_)))))
      have hj:SH _ _ _ _ _ [obj lF [V3 none 0 0,V3 none 0 0,V3 none 0 0] 73,_,_,_,_,_]:=mK
      refine wl_nil (qe_held (listed':=L_ 13 11) u ⟨⟨hj.hasK (((m.le.trans q).trans ad).trans bM),hj.hasObj m5⟩,(fun _=>trivial),by decide⟩ (wg_one (i:=12) (by kernel_rfl) u (lw [V3 x y D,V3 bL 0 0,V3 hg hh hi] tf73 hj fun rF hk=>(wl_nil (qe_held (listed':=L_ 13 12) u ⟨⟨hk.hasK (((m.le.trans q).trans ad).trans bM),hk.hasObj m5⟩,(fun _=>trivial),by decide⟩ (wg_done (by kernel_rfl) ?_))))))
      cases oi G
      exact qd ⟨lF,x,y,D,bL,0,0,hg,hh,hi,mI,u,hk.f4.f5.f3.f4.f4.s,(((m.le.trans q).trans ad).trans bM),(au.mono ((q.trans ad).trans bM)),(lE.mono bM),mJ⟩
     refine al tf73 cO fun lG rG mL=>?_
     have hn:SH _ _ _ _ _ [obj lG [V3 none 0 0,V3 none 0 0,V3 none 0 0] 73,_,_,_,_,_]:=mL
     refine wl_nil (qe_held (listed':=#[true,true,true,true,true,true,true,true,true,false,false,true,false]) u ⟨⟨hn.hasK ((m.le.trans q).trans ad),hn.hasObj m5⟩,(fun _=>trivial),by decide⟩ (wg_one (i:=9) (by kernel_rfl) u (lp underlying71 tf3 (dR.mono ad) (H.mono ((m.le.trans q).trans ad)) I hn.f2 fun ho hp hq rH mM cP mN dU=>(wl_nil (qe_held (listed':=#[true,true,true,true,true,true,true,true,true,true,false,true,false]) u ⟨⟨dU.hasK (((m.le.trans q).trans ad).trans cP),dU.hasObj m5⟩,(fun _=>trivial),by decide⟩ (wg_val (i:=10) (listed':=L_ 13 11) (fun _=>True) u (by kernel_rfl) (pk_then (pk_then pk_body)) (by kernel_rfl) u (by kernel_rfl) (by kernel_rfl) u (.inl fun _ _=>trivial) ⟨⟨dU.hasK (((m.le.trans q).trans ad).trans cP),dU.hasObj m5⟩,(fun _=>trivial),by decide⟩ wn u (fun _ _=>(rv_build (cs:=#[V3 x y D,V3 bL 0 0,V3 ho hp hq]) sp73 tf73 u (by kernel_rfl))) (wg_one (i:=12) (by kernel_rfl) u (lw [V3 x y D,V3 bL 0 0,V3 ho hp hq] tf73 dU.f1 fun rI hr=>?_))))))))
     refine wl_nil (qe_held (listed':=L_ 13 12) u ⟨⟨hr.hasK (((m.le.trans q).trans ad).trans cP),hr.hasObj m5⟩,(fun _=>trivial),by decide⟩ (wg_done (by kernel_rfl) ?_))
     cases oi G
     exact qd ⟨lG,x,y,D,bL,0,0,ho,hp,hq,mM,u,hr.f4.f5.f3.f4.f4.s,(((m.le.trans q).trans ad).trans cP),(au.mono ((q.trans ad).trans cP)),(lE.mono cP),mN⟩
    ·refine lp underlying71 tf3 dR (H.mono (m.le.trans q)) I dS fun cQ cR cS rJ rK aq lH fg=>(wl_nil (qe_held (listed':=#[true,true,true,true,false,false,true,true,true,true,false,false,false]) u ⟨⟨fg.hasK ((m.le.trans q).trans aq),fg.hasObj m3⟩,(fun _=>trivial),by decide⟩ (wg_many (l:=[4,11]) (by kernel_rfl) u ⟨⟨_,u,?_⟩,⟨_,u,?_⟩,trivial⟩)))
     ·refine b0 tGEntry underlying44 tf116 fg fun fh rL mO bn mP bN=>(wl_nil (qe_held (listed':=#[true,true,true,true,true,false,true,true,true,true,false,false,false]) u ⟨⟨bN.hasK (((m.le.trans q).trans aq).trans bn),bN.hasObj m4⟩,(fun _=>trivial),by decide⟩ (wg_val (i:=5) (listed':=L_ 13 9) (fun _=>True) u (by kernel_rfl) (pk_then (pk_then pk_body)) (by kernel_rfl) u (by kernel_rfl) (by kernel_rfl) u (.inl fun _ _=>trivial) ⟨⟨bN.hasK (((m.le.trans q).trans aq).trans bn),bN.hasObj m4⟩,(fun _=>trivial),by decide⟩ wn u (fun _ _=>(rv_build (cs:=#[V3 x y D,V3 fh 0 0]) sp46 tf46 u (by kernel_rfl))) (wg_val (i:=10) (listed':=L_ 13 10) (fun _=>True) u (by kernel_rfl) (pk_then (pk_then pk_body)) (by kernel_rfl) u (by kernel_rfl) (by kernel_rfl) u (.inl fun _ _=>trivial) ⟨⟨bN.hasK (((m.le.trans q).trans aq).trans bn),bN.hasObj m4⟩,(fun _=>trivial),by decide⟩ wn u (fun _ _=>(rv_build (cs:=#[V3 x y D,V3 fh 0 0,V3 cQ cR cS]) sp73 tf73 u (by kernel_rfl))) (wg_one (i:=11) (by kernel_rfl) u (al tf73 bN fun lI rM mQ=>?_))))))
      have ht:SH _ _ _ _ _ [obj lI [V3 none 0 0,V3 none 0 0,V3 none 0 0] 73,_,_,_,_,_]:=mQ
      refine wl_nil (qe_held (listed':=L_ 13 11) u ⟨⟨ht.hasK (((m.le.trans q).trans aq).trans bn),ht.hasObj m5⟩,(fun _=>trivial),by decide⟩ (wg_one (i:=12) (by kernel_rfl) u (lw [V3 x y D,V3 fh 0 0,V3 cQ cR cS] tf73 ht fun rN hu=>(wl_nil (qe_held (listed':=L_ 13 12) u ⟨⟨hu.hasK (((m.le.trans q).trans aq).trans bn),hu.hasObj m5⟩,(fun _=>trivial),by decide⟩ (wg_done (by kernel_rfl) ?_))))))
      cases oi G
      exact qd ⟨lI,x,y,D,fh,0,0,cQ,cR,cS,mO,u,hu.f4.f5.f4.f4.f4.s,(((m.le.trans q).trans aq).trans bn),(au.mono ((q.trans aq).trans bn)),mP,(lH.mono bn)⟩
     refine al tf73 fg fun lJ rO mR=>?_
     have hv:SH _ _ _ _ _ [obj lJ [V3 none 0 0,V3 none 0 0,V3 none 0 0] 73,_,_,_,_]:=mR
     refine wl_nil (qe_held (listed':=#[true,true,true,true,false,false,true,true,true,true,false,true,false]) u ⟨⟨hv.hasK ((m.le.trans q).trans aq),hv.hasObj m4⟩,(fun _=>trivial),by decide⟩ (wg_one (i:=4) (by kernel_rfl) u (b0 tGEntry underlying44 tf116 hv fun fi rP mS bO mT bP=>(wl_nil (qe_held (listed':=#[true,true,true,true,true,false,true,true,true,true,false,true,false]) u ⟨⟨bP.hasK (((m.le.trans q).trans aq).trans bO),bP.hasObj m5⟩,(fun _=>trivial),by decide⟩ (wg_val (i:=5) (listed':=#[true,true,true,true,true,true,true,true,true,true,false,true,false]) (fun _=>True) u (by kernel_rfl) (pk_then (pk_then pk_body)) (by kernel_rfl) u (by kernel_rfl) (by kernel_rfl) u (.inl fun _ _=>trivial) ⟨⟨bP.hasK (((m.le.trans q).trans aq).trans bO),bP.hasObj m5⟩,(fun _=>trivial),by decide⟩ wn u (fun _ _=>(rv_build (cs:=#[V3 x y D,V3 fi 0 0]) sp46 tf46 u (by kernel_rfl))) ?_))))))
     refine wg_val (i:=10) (listed':=L_ 13 11) (fun _=>True) u (by kernel_rfl) (pk_then (pk_then pk_body)) (by kernel_rfl) u (by kernel_rfl) (by kernel_rfl) u (.inl fun _ _=>trivial) ⟨⟨bP.hasK (((m.le.trans q).trans aq).trans bO),bP.hasObj m5⟩,(fun _=>trivial),by decide⟩ wn u (fun _ _=>(rv_build (cs:=#[V3 x y D,V3 fi 0 0,V3 cQ cR cS]) sp73 tf73 u (by kernel_rfl))) (wg_one (i:=12) (by kernel_rfl) u (lw [V3 x y D,V3 fi 0 0,V3 cQ cR cS] tf73 bP.f1 fun rQ hw=>(wl_nil (qe_held (listed':=L_ 13 12) u ⟨⟨hw.hasK (((m.le.trans q).trans aq).trans bO),hw.hasObj m5⟩,(fun _=>trivial),by decide⟩ (wg_done (by kernel_rfl) ?_)))))
     cases oi G
     exact qd ⟨lJ,x,y,D,fi,0,0,cQ,cR,cS,mS,u,hw.f4.f5.f4.f4.f4.s,(((m.le.trans q).trans aq).trans bO),(au.mono ((q.trans aq).trans bO)),mT,(lH.mono bO)⟩
    refine al tf73 dS fun hx rR mU=>?_
    have fj:SH _ _ _ _ _ [obj hx [V3 none 0 0,V3 none 0 0,V3 none 0 0] 73,_,_,_,_]:=mU
    refine wl_nil (qe_held (listed':=#[true,true,true,true,false,false,true,true,true,false,false,true,false]) u ⟨⟨fj.hasK (m.le.trans q),fj.hasObj m4⟩,(fun _=>trivial),by decide⟩ (wg_many (l:=[4,9]) (by kernel_rfl) u ⟨⟨_,u,?_⟩,⟨_,u,?_⟩,trivial⟩))
    ·refine b0 tGEntry underlying44 tf116 fj fun fk rS rT ba mV dV=>(wl_nil (qe_held (listed':=#[true,true,true,true,true,false,true,true,true,false,false,true,false]) u ⟨⟨dV.hasK ((m.le.trans q).trans ba),dV.hasObj m5⟩,(fun _=>trivial),by decide⟩ (wg_val (i:=5) (listed':=#[true,true,true,true,true,true,true,true,true,false,false,true,false]) (fun _=>True) u (by kernel_rfl) (pk_then (pk_then pk_body)) (by kernel_rfl) u (by kernel_rfl) (by kernel_rfl) u (.inl fun _ _=>trivial) ⟨⟨dV.hasK ((m.le.trans q).trans ba),dV.hasObj m5⟩,(fun _=>trivial),by decide⟩ wn u (fun _ _=>(rv_build (cs:=#[V3 x y D,V3 fk 0 0]) sp46 tf46 u (by kernel_rfl))) (wg_one (i:=9) (by kernel_rfl) u (lp underlying71 tf3 (dR.mono ba) (H.mono ((m.le.trans q).trans ba)) I dV.f2 fun hy hz hA rU mW cT mX dW=>(wl_nil (qe_held (listed':=#[true,true,true,true,true,true,true,true,true,true,false,true,false]) u ⟨⟨dW.hasK (((m.le.trans q).trans ba).trans cT),dW.hasObj m5⟩,(fun _=>trivial),by decide⟩ ?_)))))))
     refine wg_val (i:=10) (listed':=L_ 13 11) (fun _=>True) u (by kernel_rfl) (pk_then (pk_then pk_body)) (by kernel_rfl) u (by kernel_rfl) (by kernel_rfl) u (.inl fun _ _=>trivial) ⟨⟨dW.hasK (((m.le.trans q).trans ba).trans cT),dW.hasObj m5⟩,(fun _=>trivial),by decide⟩ wn u (fun _ _=>(rv_build (cs:=#[V3 x y D,V3 fk 0 0,V3 hy hz hA]) sp73 tf73 u (by kernel_rfl))) (wg_one (i:=12) (by kernel_rfl) u (lw [V3 x y D,V3 fk 0 0,V3 hy hz hA] tf73 dW.f2 fun rV hB=>(wl_nil (qe_held (listed':=L_ 13 12) u ⟨⟨hB.hasK (((m.le.trans q).trans ba).trans cT),hB.hasObj m5⟩,(fun _=>trivial),by decide⟩ (wg_done (by kernel_rfl) ?_)))))
     cases oi G
     exact qd ⟨hx,x,y,D,fk,0,0,hy,hz,hA,mW,u,hB.f4.f5.f3.f4.f4.s,(((m.le.trans q).trans ba).trans cT),(au.mono ((q.trans ba).trans cT)),(mV.mono cT),mX⟩
    have mY:=fj.f1
    refine lp underlying71 tf3 dR (H.mono (m.le.trans q)) I mY fun hC hD hE rW rX bQ mZ hF=>(wl_nil (qe_held (listed':=#[true,true,true,true,false,false,true,true,true,true,false,true,false]) u ⟨⟨hF.hasK ((m.le.trans q).trans bQ),hF.hasObj m4⟩,(fun _=>trivial),by decide⟩ (wg_one (i:=4) (by kernel_rfl) u (b0 tGEntry underlying44 tf116 hF fun fm rY na bR nc bS=>(wl_nil (qe_held (listed':=#[true,true,true,true,true,false,true,true,true,true,false,true,false]) u ⟨⟨bS.hasK (((m.le.trans q).trans bQ).trans bR),bS.hasObj m5⟩,(fun _=>trivial),by decide⟩ (wg_val (i:=5) (listed':=#[true,true,true,true,true,true,true,true,true,true,false,true,false]) (fun _=>True) u (by kernel_rfl) (pk_then (pk_then pk_body)) (by kernel_rfl) u (by kernel_rfl) (by kernel_rfl) u (.inl fun _ _=>trivial) ⟨⟨bS.hasK (((m.le.trans q).trans bQ).trans bR),bS.hasObj m5⟩,(fun _=>trivial),by decide⟩ wn u (fun _ _=>(rv_build (cs:=#[V3 x y D,V3 fm 0 0]) sp46 tf46 u (by kernel_rfl))) ?_)))))))
    refine wg_val (i:=10) (listed':=L_ 13 11) (fun _=>True) u (by kernel_rfl) (pk_then (pk_then pk_body)) (by kernel_rfl) u (by kernel_rfl) (by kernel_rfl) u (.inl fun _ _=>trivial) ⟨⟨bS.hasK (((m.le.trans q).trans bQ).trans bR),bS.hasObj m5⟩,(fun _=>trivial),by decide⟩ wn u (fun _ _=>(rv_build (cs:=#[V3 x y D,V3 fm 0 0,V3 hC hD hE]) sp73 tf73 u (by kernel_rfl))) (wg_one (i:=12) (by kernel_rfl) u (lw [V3 x y D,V3 fm 0 0,V3 hC hD hE] tf73 bS.f2 fun rZ hG=>(wl_nil (qe_held (listed':=L_ 13 12) u ⟨⟨hG.hasK (((m.le.trans q).trans bQ).trans bR),hG.hasObj m5⟩,(fun _=>trivial),by decide⟩ (wg_done (by kernel_rfl) ?_)))))
    cases oi G
    exact qd ⟨hx,x,y,D,fm,0,0,hC,hD,hE,na,u,hG.f4.f5.f4.f4.f4.s,(((m.le.trans q).trans bQ).trans bR),(au.mono ((q.trans bQ).trans bR)),nc,(mZ.mono bR)⟩
   refine al tf73 dN fun fn sa nd=>?_
   have fo:SH _ _ _ _ _ [obj fn [V3 none 0 0,V3 none 0 0,V3 none 0 0] 73,_,_,_]:=nd
   refine wl_nil (qe_held (listed':=#[true,true,true,true,false,false,false,true,true,false,false,true,false]) u ⟨⟨fo.hasK m.le,fo.hasObj m3⟩,(fun _=>trivial),by decide⟩ (wg_many (l:=[4,6]) (by kernel_rfl) u ⟨⟨_,u,?_⟩,⟨_,u,?_⟩,trivial⟩))
   ·refine b0 tGEntry underlying44 tf116 fo fun fp sb sc bb ne dX=>(wl_nil (qe_held (listed':=#[true,true,true,true,true,false,false,true,true,false,false,true,false]) u ⟨⟨dX.hasK (m.le.trans bb),dX.hasObj m4⟩,(fun _=>trivial),by decide⟩ (wg_val (i:=5) (listed':=#[true,true,true,true,true,true,false,true,true,false,false,true,false]) (fun _=>True) u (by kernel_rfl) (pk_then (pk_then pk_body)) (by kernel_rfl) u (by kernel_rfl) (by kernel_rfl) u (.inl fun _ _=>trivial) ⟨⟨dX.hasK (m.le.trans bb),dX.hasObj m4⟩,(fun _=>trivial),by decide⟩ wn u (fun _ _=>(rv_build (cs:=#[V3 x y D,V3 fp 0 0]) sp46 tf46 u (by kernel_rfl))) (wg_one (i:=6) (by kernel_rfl) u (b0 tInt underlying71 tf3 dX fun se sf sg bo nf hH=>(wl_nil (qe_held (listed':=#[true,true,true,true,true,true,true,true,true,false,false,true,false]) u ⟨⟨hH.hasK ((m.le.trans bb).trans bo),hH.hasObj m5⟩,(fun _=>trivial),by decide⟩ (wg_one (i:=9) (by kernel_rfl) u (lp underlying71 tf3 nf (H.mono ((m.le.trans bb).trans bo)) I hH fun hI hJ hK sh ng cU nh dY=>?_)))))))))
    refine wl_nil (qe_held (listed':=#[true,true,true,true,true,true,true,true,true,true,false,true,false]) u ⟨⟨dY.hasK (((m.le.trans bb).trans bo).trans cU),dY.hasObj m5⟩,(fun _=>trivial),by decide⟩ (wg_val (i:=10) (listed':=L_ 13 11) (fun _=>True) u (by kernel_rfl) (pk_then (pk_then pk_body)) (by kernel_rfl) u (by kernel_rfl) (by kernel_rfl) u (.inl fun _ _=>trivial) ⟨⟨dY.hasK (((m.le.trans bb).trans bo).trans cU),dY.hasObj m5⟩,(fun _=>trivial),by decide⟩ wn u (fun _ _=>(rv_build (cs:=#[V3 x y D,V3 fp 0 0,V3 hI hJ hK]) sp73 tf73 u (by kernel_rfl))) (wg_one (i:=12) (by kernel_rfl) u (lw [V3 x y D,V3 fp 0 0,V3 hI hJ hK] tf73 dY.f2 fun si hL=>(wl_nil (qe_held (listed':=L_ 13 12) u ⟨⟨hL.hasK (((m.le.trans bb).trans bo).trans cU),hL.hasObj m5⟩,(fun _=>trivial),by decide⟩ (wg_done (by kernel_rfl) ?_)))))))
    cases oi G
    exact qd ⟨fn,x,y,D,fp,0,0,hI,hJ,hK,ng,u,hL.f4.f5.f3.f4.f4.s,(((m.le.trans bb).trans bo).trans cU),(au.mono ((bb.trans bo).trans cU)),(ne.mono (bo.trans cU)),nh⟩
   refine b0 tInt underlying71 tf3 fo fun sj sl sm ai lK fq=>(wl_nil (qe_held (listed':=#[true,true,true,true,false,false,true,true,true,false,false,true,false]) u ⟨⟨fq.hasK (m.le.trans ai),fq.hasObj m4⟩,(fun _=>trivial),by decide⟩ (wg_many (l:=[4,9]) (by kernel_rfl) u ⟨⟨_,u,?_⟩,⟨_,u,?_⟩,trivial⟩)))
   ·refine b0 tGEntry underlying44 tf116 fq fun fr sn so bc ni dZ=>(wl_nil (qe_held (listed':=#[true,true,true,true,true,false,true,true,true,false,false,true,false]) u ⟨⟨dZ.hasK ((m.le.trans ai).trans bc),dZ.hasObj m5⟩,(fun _=>trivial),by decide⟩ (wg_val (i:=5) (listed':=#[true,true,true,true,true,true,true,true,true,false,false,true,false]) (fun _=>True) u (by kernel_rfl) (pk_then (pk_then pk_body)) (by kernel_rfl) u (by kernel_rfl) (by kernel_rfl) u (.inl fun _ _=>trivial) ⟨⟨dZ.hasK ((m.le.trans ai).trans bc),dZ.hasObj m5⟩,(fun _=>trivial),by decide⟩ wn u (fun _ _=>(rv_build (cs:=#[V3 x y D,V3 fr 0 0]) sp46 tf46 u (by kernel_rfl))) (wg_one (i:=9) (by kernel_rfl) u (lp underlying71 tf3 (lK.mono bc) (H.mono ((m.le.trans ai).trans bc)) I dZ.f1 fun hM hN hO sq nj cV nk ea=>(wl_nil (qe_held (listed':=#[true,true,true,true,true,true,true,true,true,true,false,true,false]) u ⟨⟨ea.hasK (((m.le.trans ai).trans bc).trans cV),ea.hasObj m5⟩,(fun _=>trivial),by decide⟩ ?_)))))))
    refine wg_val (i:=10) (listed':=L_ 13 11) (fun _=>True) u (by kernel_rfl) (pk_then (pk_then pk_body)) (by kernel_rfl) u (by kernel_rfl) (by kernel_rfl) u (.inl fun _ _=>trivial) ⟨⟨ea.hasK (((m.le.trans ai).trans bc).trans cV),ea.hasObj m5⟩,(fun _=>trivial),by decide⟩ wn u (fun _ _=>(rv_build (cs:=#[V3 x y D,V3 fr 0 0,V3 hM hN hO]) sp73 tf73 u (by kernel_rfl))) (wg_one (i:=12) (by kernel_rfl) u (lw [V3 x y D,V3 fr 0 0,V3 hM hN hO] tf73 ea.f2 fun ss hP=>(wl_nil (qe_held (listed':=L_ 13 12) u ⟨⟨hP.hasK (((m.le.trans ai).trans bc).trans cV),hP.hasObj m5⟩,(fun _=>trivial),by decide⟩ (wg_done (by kernel_rfl) ?_)))))
    cases oi G
    exact qd ⟨fn,x,y,D,fr,0,0,hM,hN,hO,nj,u,hP.f4.f5.f3.f4.f4.s,(((m.le.trans ai).trans bc).trans cV),(au.mono ((ai.trans bc).trans cV)),(ni.mono cV),nk⟩
   refine lp underlying71 tf3 lK (H.mono (m.le.trans ai)) I fq fun hQ hR hT st su bT nl hU=>(wl_nil (qe_held (listed':=#[true,true,true,true,false,false,true,true,true,true,false,true,false]) u ⟨⟨hU.hasK ((m.le.trans ai).trans bT),hU.hasObj m4⟩,(fun _=>trivial),by decide⟩ (wg_one (i:=4) (by kernel_rfl) u (b0 tGEntry underlying44 tf116 hU fun fs sw nm bU nn bV=>(wl_nil (qe_held (listed':=#[true,true,true,true,true,false,true,true,true,true,false,true,false]) u ⟨⟨bV.hasK (((m.le.trans ai).trans bT).trans bU),bV.hasObj m5⟩,(fun _=>trivial),by decide⟩ (wg_val (i:=5) (listed':=#[true,true,true,true,true,true,true,true,true,true,false,true,false]) (fun _=>True) u (by kernel_rfl) (pk_then (pk_then pk_body)) (by kernel_rfl) u (by kernel_rfl) (by kernel_rfl) u (.inl fun _ _=>trivial) ⟨⟨bV.hasK (((m.le.trans ai).trans bT).trans bU),bV.hasObj m5⟩,(fun _=>trivial),by decide⟩ wn u (fun _ _=>(rv_build (cs:=#[V3 x y D,V3 fs 0 0]) sp46 tf46 u (by kernel_rfl))) ?_)))))))
   refine wg_val (i:=10) (listed':=L_ 13 11) (fun _=>True) u (by kernel_rfl) (pk_then (pk_then pk_body)) (by kernel_rfl) u (by kernel_rfl) (by kernel_rfl) u (.inl fun _ _=>trivial) ⟨⟨bV.hasK (((m.le.trans ai).trans bT).trans bU),bV.hasObj m5⟩,(fun _=>trivial),by decide⟩ wn u (fun _ _=>(rv_build (cs:=#[V3 x y D,V3 fs 0 0,V3 hQ hR hT]) sp73 tf73 u (by kernel_rfl))) (wg_one (i:=12) (by kernel_rfl) u (lw [V3 x y D,V3 fs 0 0,V3 hQ hR hT] tf73 bV.f2 fun sx hV=>(wl_nil (qe_held (listed':=L_ 13 12) u ⟨⟨hV.hasK (((m.le.trans ai).trans bT).trans bU),hV.hasObj m5⟩,(fun _=>trivial),by decide⟩ (wg_done (by kernel_rfl) ?_)))))
   cases oi G
   exact qd ⟨fn,x,y,D,fs,0,0,hQ,hR,hT,nm,u,hV.f4.f5.f4.f4.f4.s,(((m.le.trans ai).trans bT).trans bU),(au.mono ((ai.trans bT).trans bU)),nn,(nl.mono bU)⟩
  ·refine b0 tGEntry underlying44 tf116 ap fun J sy sA o bp cW=>(wl_nil (qe_held (listed':=#[true,true,true,false,true,false,false,true,true,false,false,false,false]) u ⟨⟨cW.hasK o,cW.hasObj m2⟩,(fun _=>trivial),by decide⟩ (wg_many (l:=[3,6,11]) (by kernel_rfl) u ⟨⟨_,u,?_⟩,⟨_,u,?_⟩,⟨_,u,?_⟩,trivial⟩)))
   ·refine lk co72 (ok_impl_cloneDocs F cW.enter0 (an.mono o) ao) ?_
    rintro sB sC ⟨aH,aI,aJ,sD,rfl,S,hW⟩
    have cX:=(cW.c0 S).t4
    refine wl_nil (qe_held (listed':=#[true,true,true,true,true,false,false,true,true,false,false,false,false]) u ⟨⟨cX.hasK (o.trans S.le),cX.hasObj m3⟩,(fun _=>trivial),by decide⟩ (wg_val (i:=5) (listed':=#[true,true,true,true,true,true,false,true,true,false,false,false,false]) (fun _=>True) u (by kernel_rfl) (pk_then (pk_then pk_body)) (by kernel_rfl) u (by kernel_rfl) (by kernel_rfl) u (.inl fun _ _=>trivial) ⟨⟨cX.hasK (o.trans S.le),cX.hasObj m3⟩,(fun _=>trivial),by decide⟩ wn u (fun _ _=>(rv_build (cs:=#[V3 aH aI aJ,V3 J 0 0]) sp46 tf46 u (by kernel_rfl))) (wg_many (l:=[6,11]) (by kernel_rfl) u ⟨⟨_,u,?_⟩,⟨_,u,?_⟩,trivial⟩)))
    ·refine b0 tInt underlying71 tf3 cX fun sE sF sG aj lL ft=>(wl_nil (qe_held (listed':=L_ 13 8) u ⟨⟨ft.hasK ((o.trans S.le).trans aj),ft.hasObj m4⟩,(fun _=>trivial),by decide⟩ (wg_many (l:=[9,11]) (by kernel_rfl) u ⟨⟨_,u,?_⟩,⟨_,u,?_⟩,trivial⟩)))
     ·refine lp underlying71 tf3 lL (H.mono ((o.trans S.le).trans aj)) I ft fun hX hY hZ sH no bW np eb=>(wl_nil (qe_held (listed':=L_ 13 9) u ⟨⟨eb.hasK (((o.trans S.le).trans aj).trans bW),eb.hasObj m4⟩,(fun _=>trivial),by decide⟩ (wg_val (i:=10) (listed':=L_ 13 10) (fun _=>True) u (by kernel_rfl) (pk_then (pk_then pk_body)) (by kernel_rfl) u (by kernel_rfl) (by kernel_rfl) u (.inl fun _ _=>trivial) ⟨⟨eb.hasK (((o.trans S.le).trans aj).trans bW),eb.hasObj m4⟩,(fun _=>trivial),by decide⟩ wn u (fun _ _=>(rv_build (cs:=#[V3 aH aI aJ,V3 J 0 0,V3 hX hY hZ]) sp73 tf73 u (by kernel_rfl))) (wg_one (i:=11) (by kernel_rfl) u (al tf73 eb fun lM sI nt=>?_)))))
      have ia:SH _ _ _ _ _ [obj lM [V3 none 0 0,V3 none 0 0,V3 none 0 0] 73,_,_,_,_,_]:=nt
      refine wl_nil (qe_held (listed':=L_ 13 11) u ⟨⟨ia.hasK (((o.trans S.le).trans aj).trans bW),ia.hasObj m5⟩,(fun _=>trivial),by decide⟩ (wg_one (i:=12) (by kernel_rfl) u (lw [V3 aH aI aJ,V3 J 0 0,V3 hX hY hZ] tf73 ia fun sJ ib=>(wl_nil (qe_held (listed':=L_ 13 12) u ⟨⟨ib.hasK (((o.trans S.le).trans aj).trans bW),ib.hasObj m5⟩,(fun _=>trivial),by decide⟩ (wg_done (by kernel_rfl) ?_))))))
      cases oi G
      exact qd ⟨lM,aH,aI,aJ,J,0,0,hX,hY,hZ,no,u,ib.f4.f5.f3.f5.f4.s,(((o.trans S.le).trans aj).trans bW),(hW.mono (aj.trans bW)),(bp.mono ((S.le.trans aj).trans bW)),np⟩
     refine al tf73 ft fun lN sK nu=>?_
     have ic:SH _ _ _ _ _ [obj lN [V3 none 0 0,V3 none 0 0,V3 none 0 0] 73,_,_,_,_,_]:=nu
     refine wl_nil (qe_held (listed':=#[true,true,true,true,true,true,true,true,true,false,false,true,false]) u ⟨⟨ic.hasK ((o.trans S.le).trans aj),ic.hasObj m5⟩,(fun _=>trivial),by decide⟩ (wg_one (i:=9) (by kernel_rfl) u (lp underlying71 tf3 lL (H.mono ((o.trans S.le).trans aj)) I ic.f1 fun ie ig ih sL nv cY nw ec=>(wl_nil (qe_held (listed':=#[true,true,true,true,true,true,true,true,true,true,false,true,false]) u ⟨⟨ec.hasK (((o.trans S.le).trans aj).trans cY),ec.hasObj m5⟩,(fun _=>trivial),by decide⟩ (wg_val (i:=10) (listed':=L_ 13 11) (fun _=>True) u (by kernel_rfl) (pk_then (pk_then pk_body)) (by kernel_rfl) u (by kernel_rfl) (by kernel_rfl) u (.inl fun _ _=>trivial) ⟨⟨ec.hasK (((o.trans S.le).trans aj).trans cY),ec.hasObj m5⟩,(fun _=>trivial),by decide⟩ wn u (fun _ _=>(rv_build (cs:=#[V3 aH aI aJ,V3 J 0 0,V3 ie ig ih]) sp73 tf73 u (by kernel_rfl))) (wg_one (i:=12) (by kernel_rfl) u (lw [V3 aH aI aJ,V3 J 0 0,V3 ie ig ih] tf73 ec.f1 fun sM ii=>?_))))))))
     refine wl_nil (qe_held (listed':=L_ 13 12) u ⟨⟨ii.hasK (((o.trans S.le).trans aj).trans cY),ii.hasObj m5⟩,(fun _=>trivial),by decide⟩ (wg_done (by kernel_rfl) ?_))
     cases oi G
     exact qd ⟨lN,aH,aI,aJ,J,0,0,ie,ig,ih,nv,u,ii.f4.f5.f3.f5.f4.s,(((o.trans S.le).trans aj).trans cY),(hW.mono (aj.trans cY)),(bp.mono ((S.le.trans aj).trans cY)),nw⟩
    refine al tf73 cX fun lO sN nx=>?_
    have ij:SH _ _ _ _ _ [obj lO [V3 none 0 0,V3 none 0 0,V3 none 0 0] 73,_,_,_,_]:=nx
    refine wl_nil (qe_held (listed':=#[true,true,true,true,true,true,false,true,true,false,false,true,false]) u ⟨⟨ij.hasK (o.trans S.le),ij.hasObj m4⟩,(fun _=>trivial),by decide⟩ (wg_one (i:=6) (by kernel_rfl) u (b0 tInt underlying71 tf3 ij fun sO sP sQ bq ny ik=>(wl_nil (qe_held (listed':=#[true,true,true,true,true,true,true,true,true,false,false,true,false]) u ⟨⟨ik.hasK ((o.trans S.le).trans bq),ik.hasObj m5⟩,(fun _=>trivial),by decide⟩ (wg_one (i:=9) (by kernel_rfl) u (lp underlying71 tf3 ny (H.mono ((o.trans S.le).trans bq)) I ik fun il im io sR nz cZ nA ed=>(wl_nil (qe_held (listed':=#[true,true,true,true,true,true,true,true,true,true,false,true,false]) u ⟨⟨ed.hasK (((o.trans S.le).trans bq).trans cZ),ed.hasObj m5⟩,(fun _=>trivial),by decide⟩ ?_)))))))))
    refine wg_val (i:=10) (listed':=L_ 13 11) (fun _=>True) u (by kernel_rfl) (pk_then (pk_then pk_body)) (by kernel_rfl) u (by kernel_rfl) (by kernel_rfl) u (.inl fun _ _=>trivial) ⟨⟨ed.hasK (((o.trans S.le).trans bq).trans cZ),ed.hasObj m5⟩,(fun _=>trivial),by decide⟩ wn u (fun _ _=>(rv_build (cs:=#[V3 aH aI aJ,V3 J 0 0,V3 il im io]) sp73 tf73 u (by kernel_rfl))) (wg_one (i:=12) (by kernel_rfl) u (lw [V3 aH aI aJ,V3 J 0 0,V3 il im io] tf73 ed.f1 fun sS ip=>(wl_nil (qe_held (listed':=L_ 13 12) u ⟨⟨ip.hasK (((o.trans S.le).trans bq).trans cZ),ip.hasObj m5⟩,(fun _=>trivial),by decide⟩ (wg_done (by kernel_rfl) ?_)))))
    cases oi G
    exact qd ⟨lO,aH,aI,aJ,J,0,0,il,im,io,nz,u,ip.f4.f5.f3.f5.f4.s,(((o.trans S.le).trans bq).trans cZ),(hW.mono (bq.trans cZ)),(bp.mono ((S.le.trans bq).trans cZ)),nA⟩
   ·refine b0 tInt underlying71 tf3 cW fun sT sU sV O iq ee=>(wl_nil (qe_held (listed':=#[true,true,true,false,true,false,true,true,true,false,false,false,false]) u ⟨⟨ee.hasK (o.trans O),ee.hasObj m3⟩,(fun _=>trivial),by decide⟩ (wg_many (l:=[3,11]) (by kernel_rfl) u ⟨⟨_,u,?_⟩,⟨_,u,?_⟩,trivial⟩)))
    ·refine lk co72 (ok_impl_cloneDocs F ee.enter0 (an.mono (o.trans O)) ao) ?_
     rintro sW sX ⟨bX,bY,bZ,sY,rfl,aa,lP⟩
     have da:=(ee.c0 aa).t5
     refine wl_nil (qe_held (listed':=#[true,true,true,true,true,false,true,true,true,false,false,false,false]) u ⟨⟨da.hasK ((o.trans O).trans aa.le),da.hasObj m4⟩,(fun _=>trivial),by decide⟩ (wg_val (i:=5) (listed':=L_ 13 8) (fun _=>True) u (by kernel_rfl) (pk_then (pk_then pk_body)) (by kernel_rfl) u (by kernel_rfl) (by kernel_rfl) u (.inl fun _ _=>trivial) ⟨⟨da.hasK ((o.trans O).trans aa.le),da.hasObj m4⟩,(fun _=>trivial),by decide⟩ wn u (fun _ _=>(rv_build (cs:=#[V3 bX bY bZ,V3 J 0 0]) sp46 tf46 u (by kernel_rfl))) (wg_many (l:=[9,11]) (by kernel_rfl) u ⟨⟨_,u,?_⟩,⟨_,u,?_⟩,trivial⟩)))
     ·have nB:=da.f1
      refine lp underlying71 tf3 (iq.mono aa.le) (H.mono ((o.trans O).trans aa.le)) I nB fun ir it iu sZ nC ca nD ef=>(wl_nil (qe_held (listed':=L_ 13 9) u ⟨⟨ef.hasK (((o.trans O).trans aa.le).trans ca),ef.hasObj m4⟩,(fun _=>trivial),by decide⟩ (wg_val (i:=10) (listed':=L_ 13 10) (fun _=>True) u (by kernel_rfl) (pk_then (pk_then pk_body)) (by kernel_rfl) u (by kernel_rfl) (by kernel_rfl) u (.inl fun _ _=>trivial) ⟨⟨ef.hasK (((o.trans O).trans aa.le).trans ca),ef.hasObj m4⟩,(fun _=>trivial),by decide⟩ wn u (fun _ _=>(rv_build (cs:=#[V3 bX bY bZ,V3 J 0 0,V3 ir it iu]) sp73 tf73 u (by kernel_rfl))) (wg_one (i:=11) (by kernel_rfl) u (al tf73 ef fun lQ ta nE=>?_)))))
      have iv:SH _ _ _ _ _ [obj lQ [V3 none 0 0,V3 none 0 0,V3 none 0 0] 73,_,_,_,_,_]:=nE
      refine wl_nil (qe_held (listed':=L_ 13 11) u ⟨⟨iv.hasK (((o.trans O).trans aa.le).trans ca),iv.hasObj m5⟩,(fun _=>trivial),by decide⟩ (wg_one (i:=12) (by kernel_rfl) u (lw [V3 bX bY bZ,V3 J 0 0,V3 ir it iu] tf73 iv fun tb iw=>(wl_nil (qe_held (listed':=L_ 13 12) u ⟨⟨iw.hasK (((o.trans O).trans aa.le).trans ca),iw.hasObj m5⟩,(fun _=>trivial),by decide⟩ (wg_done (by kernel_rfl) ?_))))))
      cases oi G
      exact qd ⟨lQ,bX,bY,bZ,J,0,0,ir,it,iu,nC,u,iw.f4.f5.f3.f5.f4.s,(((o.trans O).trans aa.le).trans ca),(lP.mono ca),(bp.mono ((O.trans aa.le).trans ca)),nD⟩
     refine al tf73 da fun lR tc nF=>?_
     have ix:SH _ _ _ _ _ [obj lR [V3 none 0 0,V3 none 0 0,V3 none 0 0] 73,_,_,_,_,_]:=nF
     refine wl_nil (qe_held (listed':=#[true,true,true,true,true,true,true,true,true,false,false,true,false]) u ⟨⟨ix.hasK ((o.trans O).trans aa.le),ix.hasObj m5⟩,(fun _=>trivial),by decide⟩ (wg_one (i:=9) (by kernel_rfl) u (lp underlying71 tf3 (iq.mono aa.le) (H.mono ((o.trans O).trans aa.le)) I ix.f2 fun iy iz iA td nG db nH eg=>(wl_nil (qe_held (listed':=#[true,true,true,true,true,true,true,true,true,true,false,true,false]) u ⟨⟨eg.hasK (((o.trans O).trans aa.le).trans db),eg.hasObj m5⟩,(fun _=>trivial),by decide⟩ (wg_val (i:=10) (listed':=L_ 13 11) (fun _=>True) u (by kernel_rfl) (pk_then (pk_then pk_body)) (by kernel_rfl) u (by kernel_rfl) (by kernel_rfl) u (.inl fun _ _=>trivial) ⟨⟨eg.hasK (((o.trans O).trans aa.le).trans db),eg.hasObj m5⟩,(fun _=>trivial),by decide⟩ wn u (fun _ _=>(rv_build (cs:=#[V3 bX bY bZ,V3 J 0 0,V3 iy iz iA]) sp73 tf73 u (by kernel_rfl))) (wg_one (i:=12) (by kernel_rfl) u (lw [V3 bX bY bZ,V3 J 0 0,V3 iy iz iA] tf73 eg.f1 fun te iB=>?_))))))))
     refine wl_nil (qe_held (listed':=L_ 13 12) u ⟨⟨iB.hasK (((o.trans O).trans aa.le).trans db),iB.hasObj m5⟩,(fun _=>trivial),by decide⟩ (wg_done (by kernel_rfl) ?_))
     cases oi G
     exact qd ⟨lR,bX,bY,bZ,J,0,0,iy,iz,iA,nG,u,iB.f4.f5.f3.f5.f4.s,(((o.trans O).trans aa.le).trans db),(lP.mono db),(bp.mono ((O.trans aa.le).trans db)),nH⟩
    refine al tf73 ee fun lS tg nI=>?_
    have fu:SH _ _ _ _ _ [obj lS [V3 none 0 0,V3 none 0 0,V3 none 0 0] 73,_,_,_,_]:=nI
    refine wl_nil (qe_held (listed':=#[true,true,true,false,true,false,true,true,true,false,false,true,false]) u ⟨⟨fu.hasK (o.trans O),fu.hasObj m4⟩,(fun _=>trivial),by decide⟩ (wg_one (i:=3) (by kernel_rfl) u (lk co72 (ok_impl_cloneDocs F fu.enter0 (an.mono (o.trans O)) ao) ?_)))
    rintro th ti ⟨fv,fw,fx,tj,rfl,aK,nJ⟩
    have eh:=(fu.c0 aK).t6
    refine wl_nil (qe_held (listed':=#[true,true,true,true,true,false,true,true,true,false,false,true,false]) u ⟨⟨eh.hasK ((o.trans O).trans aK.le),eh.hasObj m5⟩,(fun _=>trivial),by decide⟩ (wg_val (i:=5) (listed':=#[true,true,true,true,true,true,true,true,true,false,false,true,false]) (fun _=>True) u (by kernel_rfl) (pk_then (pk_then pk_body)) (by kernel_rfl) u (by kernel_rfl) (by kernel_rfl) u (.inl fun _ _=>trivial) ⟨⟨eh.hasK ((o.trans O).trans aK.le),eh.hasObj m5⟩,(fun _=>trivial),by decide⟩ wn u (fun _ _=>(rv_build (cs:=#[V3 fv fw fx,V3 J 0 0]) sp46 tf46 u (by kernel_rfl))) (wg_one (i:=9) (by kernel_rfl) u (lp underlying71 tf3 (iq.mono aK.le) (H.mono ((o.trans O).trans aK.le)) I eh.f2 fun iC iD iE tk nK dc nL ei=>(wl_nil (qe_held (listed':=#[true,true,true,true,true,true,true,true,true,true,false,true,false]) u ⟨⟨ei.hasK (((o.trans O).trans aK.le).trans dc),ei.hasObj m5⟩,(fun _=>trivial),by decide⟩ ?_))))))
    refine wg_val (i:=10) (listed':=L_ 13 11) (fun _=>True) u (by kernel_rfl) (pk_then (pk_then pk_body)) (by kernel_rfl) u (by kernel_rfl) (by kernel_rfl) u (.inl fun _ _=>trivial) ⟨⟨ei.hasK (((o.trans O).trans aK.le).trans dc),ei.hasObj m5⟩,(fun _=>trivial),by decide⟩ wn u (fun _ _=>(rv_build (cs:=#[V3 fv fw fx,V3 J 0 0,V3 iC iD iE]) sp73 tf73 u (by kernel_rfl))) (wg_one (i:=12) (by kernel_rfl) u (lw [V3 fv fw fx,V3 J 0 0,V3 iC iD iE] tf73 ei.f2 fun tl iF=>(wl_nil (qe_held (listed':=L_ 13 12) u ⟨⟨iF.hasK (((o.trans O).trans aK.le).trans dc),iF.hasObj m5⟩,(fun _=>trivial),by decide⟩ (wg_done (by kernel_rfl) ?_)))))
    cases oi G
    exact qd ⟨lS,fv,fw,fx,J,0,0,iC,iD,iE,nK,u,iF.f4.f5.f3.f5.f4.s,(((o.trans O).trans aK.le).trans dc),(nJ.mono dc),(bp.mono ((O.trans aK.le).trans dc)),nL⟩
   refine al tf73 cW fun iG tm nM=>?_
   have ej:SH _ _ _ _ _ [obj iG [V3 none 0 0,V3 none 0 0,V3 none 0 0] 73,_,_,_]:=nM
   refine wl_nil (qe_held (listed':=#[true,true,true,false,true,false,false,true,true,false,false,true,false]) u ⟨⟨ej.hasK o,ej.hasObj m3⟩,(fun _=>trivial),by decide⟩ (wg_many (l:=[3,6]) (by kernel_rfl) u ⟨⟨_,u,?_⟩,⟨_,u,?_⟩,trivial⟩))
   ·refine lk co72 (ok_impl_cloneDocs F ej.enter0 (an.mono o) ao) ?_
    rintro tn tp ⟨fy,fz,fA,tq,rfl,aL,nN⟩
    have ek:=(ej.c0 aL).t5
    refine wl_nil (qe_held (listed':=#[true,true,true,true,true,false,false,true,true,false,false,true,false]) u ⟨⟨ek.hasK (o.trans aL.le),ek.hasObj m4⟩,(fun _=>trivial),by decide⟩ (wg_val (i:=5) (listed':=#[true,true,true,true,true,true,false,true,true,false,false,true,false]) (fun _=>True) u (by kernel_rfl) (pk_then (pk_then pk_body)) (by kernel_rfl) u (by kernel_rfl) (by kernel_rfl) u (.inl fun _ _=>trivial) ⟨⟨ek.hasK (o.trans aL.le),ek.hasObj m4⟩,(fun _=>trivial),by decide⟩ wn u (fun _ _=>(rv_build (cs:=#[V3 fy fz fA,V3 J 0 0]) sp46 tf46 u (by kernel_rfl))) (wg_one (i:=6) (by kernel_rfl) u (b0 tInt underlying71 tf3 ek fun tr ts tt br nO iH=>(wl_nil (qe_held (listed':=#[true,true,true,true,true,true,true,true,true,false,false,true,false]) u ⟨⟨iH.hasK ((o.trans aL.le).trans br),iH.hasObj m5⟩,(fun _=>trivial),by decide⟩ (wg_one (i:=9) (by kernel_rfl) u (lp underlying71 tf3 nO (H.mono ((o.trans aL.le).trans br)) I iH fun iI iJ iK tu nP dd nQ el=>?_))))))))
    refine wl_nil (qe_held (listed':=#[true,true,true,true,true,true,true,true,true,true,false,true,false]) u ⟨⟨el.hasK (((o.trans aL.le).trans br).trans dd),el.hasObj m5⟩,(fun _=>trivial),by decide⟩ (wg_val (i:=10) (listed':=L_ 13 11) (fun _=>True) u (by kernel_rfl) (pk_then (pk_then pk_body)) (by kernel_rfl) u (by kernel_rfl) (by kernel_rfl) u (.inl fun _ _=>trivial) ⟨⟨el.hasK (((o.trans aL.le).trans br).trans dd),el.hasObj m5⟩,(fun _=>trivial),by decide⟩ wn u (fun _ _=>(rv_build (cs:=#[V3 fy fz fA,V3 J 0 0,V3 iI iJ iK]) sp73 tf73 u (by kernel_rfl))) (wg_one (i:=12) (by kernel_rfl) u (lw [V3 fy fz fA,V3 J 0 0,V3 iI iJ iK] tf73 el.f2 fun tv iL=>(wl_nil (qe_held (listed':=L_ 13 12) u ⟨⟨iL.hasK (((o.trans aL.le).trans br).trans dd),iL.hasObj m5⟩,(fun _=>trivial),by decide⟩ (wg_done (by kernel_rfl) ?_)))))))
    cases oi G
    exact qd ⟨iG,fy,fz,fA,J,0,0,iI,iJ,iK,nP,u,iL.f4.f5.f3.f5.f4.s,(((o.trans aL.le).trans br).trans dd),(nN.mono (br.trans dd)),(bp.mono ((aL.le.trans br).trans dd)),nQ⟩
   refine b0 tInt underlying71 tf3 ej fun tw tx ty aM nR fB=>(wl_nil (qe_held (listed':=#[true,true,true,false,true,false,true,true,true,false,false,true,false]) u ⟨⟨fB.hasK (o.trans aM),fB.hasObj m4⟩,(fun _=>trivial),by decide⟩ (wg_one (i:=3) (by kernel_rfl) u (lk co72 (ok_impl_cloneDocs F fB.enter0 (an.mono (o.trans aM)) ao) ?_))))
   rintro tz tA ⟨fC,fD,fE,tB,rfl,aN,nS⟩
   have em:=(fB.c0 aN).t6
   refine wl_nil (qe_held (listed':=#[true,true,true,true,true,false,true,true,true,false,false,true,false]) u ⟨⟨em.hasK ((o.trans aM).trans aN.le),em.hasObj m5⟩,(fun _=>trivial),by decide⟩ (wg_val (i:=5) (listed':=#[true,true,true,true,true,true,true,true,true,false,false,true,false]) (fun _=>True) u (by kernel_rfl) (pk_then (pk_then pk_body)) (by kernel_rfl) u (by kernel_rfl) (by kernel_rfl) u (.inl fun _ _=>trivial) ⟨⟨em.hasK ((o.trans aM).trans aN.le),em.hasObj m5⟩,(fun _=>trivial),by decide⟩ wn u (fun _ _=>(rv_build (cs:=#[V3 fC fD fE,V3 J 0 0]) sp46 tf46 u (by kernel_rfl))) (wg_one (i:=9) (by kernel_rfl) u (lp underlying71 tf3 (nR.mono aN.le) (H.mono ((o.trans aM).trans aN.le)) I em.f1 fun iM iN iO tC nT de nU en=>(wl_nil (qe_held (listed':=#[true,true,true,true,true,true,true,true,true,true,false,true,false]) u ⟨⟨en.hasK (((o.trans aM).trans aN.le).trans de),en.hasObj m5⟩,(fun _=>trivial),by decide⟩ ?_))))))
   refine wg_val (i:=10) (listed':=L_ 13 11) (fun _=>True) u (by kernel_rfl) (pk_then (pk_then pk_body)) (by kernel_rfl) u (by kernel_rfl) (by kernel_rfl) u (.inl fun _ _=>trivial) ⟨⟨en.hasK (((o.trans aM).trans aN.le).trans de),en.hasObj m5⟩,(fun _=>trivial),by decide⟩ wn u (fun _ _=>(rv_build (cs:=#[V3 fC fD fE,V3 J 0 0,V3 iM iN iO]) sp73 tf73 u (by kernel_rfl))) (wg_one (i:=12) (by kernel_rfl) u (lw [V3 fC fD fE,V3 J 0 0,V3 iM iN iO] tf73 en.f2 fun tD iP=>(wl_nil (qe_held (listed':=L_ 13 12) u ⟨⟨iP.hasK (((o.trans aM).trans aN.le).trans de),iP.hasObj m5⟩,(fun _=>trivial),by decide⟩ (wg_done (by kernel_rfl) ?_)))))
   cases oi G
   exact qd ⟨iG,fC,fD,fE,J,0,0,iM,iN,iO,nT,u,iP.f4.f5.f3.f5.f4.s,(((o.trans aM).trans aN.le).trans de),(nS.mono de),(bp.mono ((aM.trans aN.le).trans de)),nU⟩
  ·refine b0 tInt underlying71 tf3 ap fun tE tF tG k aE df=>(wl_nil (qe_held (listed':=#[true,true,true,false,false,false,true,true,true,false,false,false,false]) u ⟨⟨df.hasK k,df.hasObj m2⟩,(fun _=>trivial),by decide⟩ (wg_many (l:=[3,4,11]) (by kernel_rfl) u ⟨⟨_,u,?_⟩,⟨_,u,?_⟩,⟨_,u,?_⟩,trivial⟩)))
   ·refine lk co72 (ok_impl_cloneDocs F df.enter0 (an.mono k) ao) ?_
    rintro tH tI ⟨W,X,Y,tJ,rfl,s,dg⟩
    have eo:=(df.c0 s).t4
    refine wl_nil (qe_held (listed':=#[true,true,true,true,false,false,true,true,true,false,false,false,false]) u ⟨⟨eo.hasK (k.trans s.le),eo.hasObj m3⟩,(fun _=>trivial),by decide⟩ (wg_many (l:=[4,9,11]) (by kernel_rfl) u ⟨⟨_,u,?_⟩,⟨_,u,?_⟩,⟨_,u,?_⟩,trivial⟩))
    ·refine b0 tGEntry underlying44 tf116 eo fun cb tK tL ae lT dh=>(wl_nil (qe_held (listed':=#[true,true,true,true,true,false,true,true,true,false,false,false,false]) u ⟨⟨dh.hasK ((k.trans s.le).trans ae),dh.hasObj m4⟩,(fun _=>trivial),by decide⟩ (wg_val (i:=5) (listed':=L_ 13 8) (fun _=>True) u (by kernel_rfl) (pk_then (pk_then pk_body)) (by kernel_rfl) u (by kernel_rfl) (by kernel_rfl) u (.inl fun _ _=>trivial) ⟨⟨dh.hasK ((k.trans s.le).trans ae),dh.hasObj m4⟩,(fun _=>trivial),by decide⟩ wn u (fun _ _=>(rv_build (cs:=#[V3 W X Y,V3 cb 0 0]) sp46 tf46 u (by kernel_rfl))) (wg_many (l:=[9,11]) (by kernel_rfl) u ⟨⟨_,u,?_⟩,⟨_,u,?_⟩,trivial⟩))))
     ·have nV:=dh.f2
      refine lp underlying71 tf3 (aE.mono (s.le.trans ae)) (H.mono ((k.trans s.le).trans ae)) I nV fun iQ iR iS tM nW cc nX ep=>(wl_nil (qe_held (listed':=L_ 13 9) u ⟨⟨ep.hasK (((k.trans s.le).trans ae).trans cc),ep.hasObj m4⟩,(fun _=>trivial),by decide⟩ (wg_val (i:=10) (listed':=L_ 13 10) (fun _=>True) u (by kernel_rfl) (pk_then (pk_then pk_body)) (by kernel_rfl) u (by kernel_rfl) (by kernel_rfl) u (.inl fun _ _=>trivial) ⟨⟨ep.hasK (((k.trans s.le).trans ae).trans cc),ep.hasObj m4⟩,(fun _=>trivial),by decide⟩ wn u (fun _ _=>(rv_build (cs:=#[V3 W X Y,V3 cb 0 0,V3 iQ iR iS]) sp73 tf73 u (by kernel_rfl))) (wg_one (i:=11) (by kernel_rfl) u (al tf73 ep fun lU tN nY=>?_)))))
      have iT:SH _ _ _ _ _ [obj lU [V3 none 0 0,V3 none 0 0,V3 none 0 0] 73,_,_,_,_,_]:=nY
      refine wl_nil (qe_held (listed':=L_ 13 11) u ⟨⟨iT.hasK (((k.trans s.le).trans ae).trans cc),iT.hasObj m5⟩,(fun _=>trivial),by decide⟩ (wg_one (i:=12) (by kernel_rfl) u (lw [V3 W X Y,V3 cb 0 0,V3 iQ iR iS] tf73 iT fun tO iU=>(wl_nil (qe_held (listed':=L_ 13 12) u ⟨⟨iU.hasK (((k.trans s.le).trans ae).trans cc),iU.hasObj m5⟩,(fun _=>trivial),by decide⟩ (wg_done (by kernel_rfl) ?_))))))
      cases oi G
      exact qd ⟨lU,W,X,Y,cb,0,0,iQ,iR,iS,nW,u,iU.f4.f5.f3.f4.f4.s,(((k.trans s.le).trans ae).trans cc),(dg.mono (ae.trans cc)),(lT.mono cc),nX⟩
     refine al tf73 dh fun lV tP nZ=>?_
     have iV:SH _ _ _ _ _ [obj lV [V3 none 0 0,V3 none 0 0,V3 none 0 0] 73,_,_,_,_,_]:=nZ
     refine wl_nil (qe_held (listed':=#[true,true,true,true,true,true,true,true,true,false,false,true,false]) u ⟨⟨iV.hasK ((k.trans s.le).trans ae),iV.hasObj m5⟩,(fun _=>trivial),by decide⟩ (wg_one (i:=9) (by kernel_rfl) u (lp underlying71 tf3 (aE.mono (s.le.trans ae)) (H.mono ((k.trans s.le).trans ae)) I iV.f3 fun iW iX iY tQ oa di oc eq=>(wl_nil (qe_held (listed':=#[true,true,true,true,true,true,true,true,true,true,false,true,false]) u ⟨⟨eq.hasK (((k.trans s.le).trans ae).trans di),eq.hasObj m5⟩,(fun _=>trivial),by decide⟩ (wg_val (i:=10) (listed':=L_ 13 11) (fun _=>True) u (by kernel_rfl) (pk_then (pk_then pk_body)) (by kernel_rfl) u (by kernel_rfl) (by kernel_rfl) u (.inl fun _ _=>trivial) ⟨⟨eq.hasK (((k.trans s.le).trans ae).trans di),eq.hasObj m5⟩,(fun _=>trivial),by decide⟩ wn u (fun _ _=>(rv_build (cs:=#[V3 W X Y,V3 cb 0 0,V3 iW iX iY]) sp73 tf73 u (by kernel_rfl))) (wg_one (i:=12) (by kernel_rfl) u (lw [V3 W X Y,V3 cb 0 0,V3 iW iX iY] tf73 eq.f1 fun tR iZ=>?_))))))))
     refine wl_nil (qe_held (listed':=L_ 13 12) u ⟨⟨iZ.hasK (((k.trans s.le).trans ae).trans di),iZ.hasObj m5⟩,(fun _=>trivial),by decide⟩ (wg_done (by kernel_rfl) ?_))
     cases oi G
     exact qd ⟨lV,W,X,Y,cb,0,0,iW,iX,iY,oa,u,iZ.f4.f5.f3.f4.f4.s,(((k.trans s.le).trans ae).trans di),(dg.mono (ae.trans di)),(lT.mono di),oc⟩
    ·have od:=eo.f1
     refine lp underlying71 tf3 (aE.mono s.le) (H.mono (k.trans s.le)) I od fun dj dk dl tS tT ar lW fF=>(wl_nil (qe_held (listed':=#[true,true,true,true,false,false,true,true,true,true,false,false,false]) u ⟨⟨fF.hasK ((k.trans s.le).trans ar),fF.hasObj m3⟩,(fun _=>trivial),by decide⟩ (wg_many (l:=[4,11]) (by kernel_rfl) u ⟨⟨_,u,?_⟩,⟨_,u,?_⟩,trivial⟩)))
     ·refine b0 tGEntry underlying44 tf116 fF fun fG tU oe bs og cd=>(wl_nil (qe_held (listed':=#[true,true,true,true,true,false,true,true,true,true,false,false,false]) u ⟨⟨cd.hasK (((k.trans s.le).trans ar).trans bs),cd.hasObj m4⟩,(fun _=>trivial),by decide⟩ (wg_val (i:=5) (listed':=L_ 13 9) (fun _=>True) u (by kernel_rfl) (pk_then (pk_then pk_body)) (by kernel_rfl) u (by kernel_rfl) (by kernel_rfl) u (.inl fun _ _=>trivial) ⟨⟨cd.hasK (((k.trans s.le).trans ar).trans bs),cd.hasObj m4⟩,(fun _=>trivial),by decide⟩ wn u (fun _ _=>(rv_build (cs:=#[V3 W X Y,V3 fG 0 0]) sp46 tf46 u (by kernel_rfl))) (wg_val (i:=10) (listed':=L_ 13 10) (fun _=>True) u (by kernel_rfl) (pk_then (pk_then pk_body)) (by kernel_rfl) u (by kernel_rfl) (by kernel_rfl) u (.inl fun _ _=>trivial) ⟨⟨cd.hasK (((k.trans s.le).trans ar).trans bs),cd.hasObj m4⟩,(fun _=>trivial),by decide⟩ wn u (fun _ _=>(rv_build (cs:=#[V3 W X Y,V3 fG 0 0,V3 dj dk dl]) sp73 tf73 u (by kernel_rfl))) (wg_one (i:=11) (by kernel_rfl) u (al tf73 cd fun lX tV oh=>?_))))))
      have ja:SH _ _ _ _ _ [obj lX [V3 none 0 0,V3 none 0 0,V3 none 0 0] 73,_,_,_,_,_]:=oh
      refine wl_nil (qe_held (listed':=L_ 13 11) u ⟨⟨ja.hasK (((k.trans s.le).trans ar).trans bs),ja.hasObj m5⟩,(fun _=>trivial),by decide⟩ (wg_one (i:=12) (by kernel_rfl) u (lw [V3 W X Y,V3 fG 0 0,V3 dj dk dl] tf73 ja fun tW jb=>(wl_nil (qe_held (listed':=L_ 13 12) u ⟨⟨jb.hasK (((k.trans s.le).trans ar).trans bs),jb.hasObj m5⟩,(fun _=>trivial),by decide⟩ (wg_done (by kernel_rfl) ?_))))))
      cases oi G
      exact qd ⟨lX,W,X,Y,fG,0,0,dj,dk,dl,oe,u,jb.f4.f5.f4.f4.f4.s,(((k.trans s.le).trans ar).trans bs),(dg.mono (ar.trans bs)),og,(lW.mono bs)⟩
     refine al tf73 fF fun lY tX oj=>?_
     have jc:SH _ _ _ _ _ [obj lY [V3 none 0 0,V3 none 0 0,V3 none 0 0] 73,_,_,_,_]:=oj
     refine wl_nil (qe_held (listed':=#[true,true,true,true,false,false,true,true,true,true,false,true,false]) u ⟨⟨jc.hasK ((k.trans s.le).trans ar),jc.hasObj m4⟩,(fun _=>trivial),by decide⟩ (wg_one (i:=4) (by kernel_rfl) u (b0 tGEntry underlying44 tf116 jc fun fH tY ok ce ol cf=>(wl_nil (qe_held (listed':=#[true,true,true,true,true,false,true,true,true,true,false,true,false]) u ⟨⟨cf.hasK (((k.trans s.le).trans ar).trans ce),cf.hasObj m5⟩,(fun _=>trivial),by decide⟩ (wg_val (i:=5) (listed':=#[true,true,true,true,true,true,true,true,true,true,false,true,false]) (fun _=>True) u (by kernel_rfl) (pk_then (pk_then pk_body)) (by kernel_rfl) u (by kernel_rfl) (by kernel_rfl) u (.inl fun _ _=>trivial) ⟨⟨cf.hasK (((k.trans s.le).trans ar).trans ce),cf.hasObj m5⟩,(fun _=>trivial),by decide⟩ wn u (fun _ _=>(rv_build (cs:=#[V3 W X Y,V3 fH 0 0]) sp46 tf46 u (by kernel_rfl))) ?_))))))
     refine wg_val (i:=10) (listed':=L_ 13 11) (fun _=>True) u (by kernel_rfl) (pk_then (pk_then pk_body)) (by kernel_rfl) u (by kernel_rfl) (by kernel_rfl) u (.inl fun _ _=>trivial) ⟨⟨cf.hasK (((k.trans s.le).trans ar).trans ce),cf.hasObj m5⟩,(fun _=>trivial),by decide⟩ wn u (fun _ _=>(rv_build (cs:=#[V3 W X Y,V3 fH 0 0,V3 dj dk dl]) sp73 tf73 u (by kernel_rfl))) (wg_one (i:=12) (by kernel_rfl) u (lw [V3 W X Y,V3 fH 0 0,V3 dj dk dl] tf73 cf.f1 fun tZ je=>(wl_nil (qe_held (listed':=L_ 13 12) u ⟨⟨je.hasK (((k.trans s.le).trans ar).trans ce),je.hasObj m5⟩,(fun _=>trivial),by decide⟩ (wg_done (by kernel_rfl) ?_)))))
     cases oi G
     exact qd ⟨lY,W,X,Y,fH,0,0,dj,dk,dl,ok,u,je.f4.f5.f4.f4.f4.s,(((k.trans s.le).trans ar).trans ce),(dg.mono (ar.trans ce)),ol,(lW.mono ce)⟩
    refine al tf73 eo fun jj ua om=>?_
    have fI:SH _ _ _ _ _ [obj jj [V3 none 0 0,V3 none 0 0,V3 none 0 0] 73,_,_,_,_]:=om
    refine wl_nil (qe_held (listed':=#[true,true,true,true,false,false,true,true,true,false,false,true,false]) u ⟨⟨fI.hasK (k.trans s.le),fI.hasObj m4⟩,(fun _=>trivial),by decide⟩ (wg_many (l:=[4,9]) (by kernel_rfl) u ⟨⟨_,u,?_⟩,⟨_,u,?_⟩,trivial⟩))
    ·refine b0 tGEntry underlying44 tf116 fI fun fJ ub uc bd on es=>(wl_nil (qe_held (listed':=#[true,true,true,true,true,false,true,true,true,false,false,true,false]) u ⟨⟨es.hasK ((k.trans s.le).trans bd),es.hasObj m5⟩,(fun _=>trivial),by decide⟩ (wg_val (i:=5) (listed':=#[true,true,true,true,true,true,true,true,true,false,false,true,false]) (fun _=>True) u (by kernel_rfl) (pk_then (pk_then pk_body)) (by kernel_rfl) u (by kernel_rfl) (by kernel_rfl) u (.inl fun _ _=>trivial) ⟨⟨es.hasK ((k.trans s.le).trans bd),es.hasObj m5⟩,(fun _=>trivial),by decide⟩ wn u (fun _ _=>(rv_build (cs:=#[V3 W X Y,V3 fJ 0 0]) sp46 tf46 u (by kernel_rfl))) (wg_one (i:=9) (by kernel_rfl) u (lp underlying71 tf3 (aE.mono (s.le.trans bd)) (H.mono ((k.trans s.le).trans bd)) I es.f3 fun jl jm jo ud oo dm op et=>(wl_nil (qe_held (listed':=#[true,true,true,true,true,true,true,true,true,true,false,true,false]) u ⟨⟨et.hasK (((k.trans s.le).trans bd).trans dm),et.hasObj m5⟩,(fun _=>trivial),by decide⟩ ?_)))))))
     refine wg_val (i:=10) (listed':=L_ 13 11) (fun _=>True) u (by kernel_rfl) (pk_then (pk_then pk_body)) (by kernel_rfl) u (by kernel_rfl) (by kernel_rfl) u (.inl fun _ _=>trivial) ⟨⟨et.hasK (((k.trans s.le).trans bd).trans dm),et.hasObj m5⟩,(fun _=>trivial),by decide⟩ wn u (fun _ _=>(rv_build (cs:=#[V3 W X Y,V3 fJ 0 0,V3 jl jm jo]) sp73 tf73 u (by kernel_rfl))) (wg_one (i:=12) (by kernel_rfl) u (lw [V3 W X Y,V3 fJ 0 0,V3 jl jm jo] tf73 et.f2 fun ue jp=>(wl_nil (qe_held (listed':=L_ 13 12) u ⟨⟨jp.hasK (((k.trans s.le).trans bd).trans dm),jp.hasObj m5⟩,(fun _=>trivial),by decide⟩ (wg_done (by kernel_rfl) ?_)))))
     cases oi G
     exact qd ⟨jj,W,X,Y,fJ,0,0,jl,jm,jo,oo,u,jp.f4.f5.f3.f4.f4.s,(((k.trans s.le).trans bd).trans dm),(dg.mono (bd.trans dm)),(on.mono dm),op⟩
    have oq:=fI.f2
    refine lp underlying71 tf3 (aE.mono s.le) (H.mono (k.trans s.le)) I oq fun jq jr jt uf uh cg os jw=>(wl_nil (qe_held (listed':=#[true,true,true,true,false,false,true,true,true,true,false,true,false]) u ⟨⟨jw.hasK ((k.trans s.le).trans cg),jw.hasObj m4⟩,(fun _=>trivial),by decide⟩ (wg_one (i:=4) (by kernel_rfl) u (b0 tGEntry underlying44 tf116 jw fun fK ui ot ch ou cj=>(wl_nil (qe_held (listed':=#[true,true,true,true,true,false,true,true,true,true,false,true,false]) u ⟨⟨cj.hasK (((k.trans s.le).trans cg).trans ch),cj.hasObj m5⟩,(fun _=>trivial),by decide⟩ (wg_val (i:=5) (listed':=#[true,true,true,true,true,true,true,true,true,true,false,true,false]) (fun _=>True) u (by kernel_rfl) (pk_then (pk_then pk_body)) (by kernel_rfl) u (by kernel_rfl) (by kernel_rfl) u (.inl fun _ _=>trivial) ⟨⟨cj.hasK (((k.trans s.le).trans cg).trans ch),cj.hasObj m5⟩,(fun _=>trivial),by decide⟩ wn u (fun _ _=>(rv_build (cs:=#[V3 W X Y,V3 fK 0 0]) sp46 tf46 u (by kernel_rfl))) ?_)))))))
    refine wg_val (i:=10) (listed':=L_ 13 11) (fun _=>True) u (by kernel_rfl) (pk_then (pk_then pk_body)) (by kernel_rfl) u (by kernel_rfl) (by kernel_rfl) u (.inl fun _ _=>trivial) ⟨⟨cj.hasK (((k.trans s.le).trans cg).trans ch),cj.hasObj m5⟩,(fun _=>trivial),by decide⟩ wn u (fun _ _=>(rv_build (cs:=#[V3 W X Y,V3 fK 0 0,V3 jq jr jt]) sp73 tf73 u (by kernel_rfl))) (wg_one (i:=12) (by kernel_rfl) u (lw [V3 W X Y,V3 fK 0 0,V3 jq jr jt] tf73 cj.f2 fun uj jx=>(wl_nil (qe_held (listed':=L_ 13 12) u ⟨⟨jx.hasK (((k.trans s.le).trans cg).trans ch),jx.hasObj m5⟩,(fun _=>trivial),by decide⟩ (wg_done (by kernel_rfl) ?_)))))
    cases oi G
    exact qd ⟨jj,W,X,Y,fK,0,0,jq,jr,jt,ot,u,jx.f4.f5.f4.f4.f4.s,(((k.trans s.le).trans cg).trans ch),(dg.mono (cg.trans ch)),ou,(os.mono ch)⟩
   ·refine b0 tGEntry underlying44 tf116 df fun aF uk ul R jy eu=>(wl_nil (qe_held (listed':=#[true,true,true,false,true,false,true,true,true,false,false,false,false]) u ⟨⟨eu.hasK (k.trans R),eu.hasObj m3⟩,(fun _=>trivial),by decide⟩ (wg_many (l:=[3,11]) (by kernel_rfl) u ⟨⟨_,u,?_⟩,⟨_,u,?_⟩,trivial⟩)))
    ·refine lk co72 (ok_impl_cloneDocs F eu.enter0 (an.mono (k.trans R)) ao) ?_
     rintro um un ⟨ck,cl,cm,uo,rfl,ab,lZ⟩
     have dn:=(eu.c0 ab).t5
     refine wl_nil (qe_held (listed':=#[true,true,true,true,true,false,true,true,true,false,false,false,false]) u ⟨⟨dn.hasK ((k.trans R).trans ab.le),dn.hasObj m4⟩,(fun _=>trivial),by decide⟩ (wg_val (i:=5) (listed':=L_ 13 8) (fun _=>True) u (by kernel_rfl) (pk_then (pk_then pk_body)) (by kernel_rfl) u (by kernel_rfl) (by kernel_rfl) u (.inl fun _ _=>trivial) ⟨⟨dn.hasK ((k.trans R).trans ab.le),dn.hasObj m4⟩,(fun _=>trivial),by decide⟩ wn u (fun _ _=>(rv_build (cs:=#[V3 ck cl cm,V3 aF 0 0]) sp46 tf46 u (by kernel_rfl))) (wg_many (l:=[9,11]) (by kernel_rfl) u ⟨⟨_,u,?_⟩,⟨_,u,?_⟩,trivial⟩)))
     ·have ov:=dn.f2
      refine lp underlying71 tf3 (aE.mono (R.trans ab.le)) (H.mono ((k.trans R).trans ab.le)) I ov fun jz jA jB up ow cn ox ev=>(wl_nil (qe_held (listed':=L_ 13 9) u ⟨⟨ev.hasK (((k.trans R).trans ab.le).trans cn),ev.hasObj m4⟩,(fun _=>trivial),by decide⟩ (wg_val (i:=10) (listed':=L_ 13 10) (fun _=>True) u (by kernel_rfl) (pk_then (pk_then pk_body)) (by kernel_rfl) u (by kernel_rfl) (by kernel_rfl) u (.inl fun _ _=>trivial) ⟨⟨ev.hasK (((k.trans R).trans ab.le).trans cn),ev.hasObj m4⟩,(fun _=>trivial),by decide⟩ wn u (fun _ _=>(rv_build (cs:=#[V3 ck cl cm,V3 aF 0 0,V3 jz jA jB]) sp73 tf73 u (by kernel_rfl))) (wg_one (i:=11) (by kernel_rfl) u (al tf73 ev fun ma uq oy=>?_)))))
      have jC:SH _ _ _ _ _ [obj ma [V3 none 0 0,V3 none 0 0,V3 none 0 0] 73,_,_,_,_,_]:=oy
      refine wl_nil (qe_held (listed':=L_ 13 11) u ⟨⟨jC.hasK (((k.trans R).trans ab.le).trans cn),jC.hasObj m5⟩,(fun _=>trivial),by decide⟩ (wg_one (i:=12) (by kernel_rfl) u (lw [V3 ck cl cm,V3 aF 0 0,V3 jz jA jB] tf73 jC fun ur jD=>(wl_nil (qe_held (listed':=L_ 13 12) u ⟨⟨jD.hasK (((k.trans R).trans ab.le).trans cn),jD.hasObj m5⟩,(fun _=>trivial),by decide⟩ (wg_done (by kernel_rfl) ?_))))))
      cases oi G
      exact qd ⟨ma,ck,cl,cm,aF,0,0,jz,jA,jB,ow,u,jD.f4.f5.f3.f5.f4.s,(((k.trans R).trans ab.le).trans cn),(lZ.mono cn),(jy.mono (ab.le.trans cn)),ox⟩
     refine al tf73 dn fun mb us oz=>?_
     have jE:SH _ _ _ _ _ [obj mb [V3 none 0 0,V3 none 0 0,V3 none 0 0] 73,_,_,_,_,_]:=oz
     refine wl_nil (qe_held (listed':=#[true,true,true,true,true,true,true,true,true,false,false,true,false]) u ⟨⟨jE.hasK ((k.trans R).trans ab.le),jE.hasObj m5⟩,(fun _=>trivial),by decide⟩ (wg_one (i:=9) (by kernel_rfl) u (lp underlying71 tf3 (aE.mono (R.trans ab.le)) (H.mono ((k.trans R).trans ab.le)) I jE.f3 fun jF jG jH ut oA dp oB ew=>(wl_nil (qe_held (listed':=#[true,true,true,true,true,true,true,true,true,true,false,true,false]) u ⟨⟨ew.hasK (((k.trans R).trans ab.le).trans dp),ew.hasObj m5⟩,(fun _=>trivial),by decide⟩ (wg_val (i:=10) (listed':=L_ 13 11) (fun _=>True) u (by kernel_rfl) (pk_then (pk_then pk_body)) (by kernel_rfl) u (by kernel_rfl) (by kernel_rfl) u (.inl fun _ _=>trivial) ⟨⟨ew.hasK (((k.trans R).trans ab.le).trans dp),ew.hasObj m5⟩,(fun _=>trivial),by decide⟩ wn u (fun _ _=>(rv_build (cs:=#[V3 ck cl cm,V3 aF 0 0,V3 jF jG jH]) sp73 tf73 u (by kernel_rfl))) (wg_one (i:=12) (by kernel_rfl) u (lw [V3 ck cl cm,V3 aF 0 0,V3 jF jG jH] tf73 ew.f1 fun uv jI=>?_))))))))
     refine wl_nil (qe_held (listed':=L_ 13 12) u ⟨⟨jI.hasK (((k.trans R).trans ab.le).trans dp),jI.hasObj m5⟩,(fun _=>trivial),by decide⟩ (wg_done (by kernel_rfl) ?_))
     cases oi G
     exact qd ⟨mb,ck,cl,cm,aF,0,0,jF,jG,jH,oA,u,jI.f4.f5.f3.f5.f4.s,(((k.trans R).trans ab.le).trans dp),(lZ.mono dp),(jy.mono (ab.le.trans dp)),oB⟩
    refine al tf73 eu fun mc uw oC=>?_
    have fL:SH _ _ _ _ _ [obj mc [V3 none 0 0,V3 none 0 0,V3 none 0 0] 73,_,_,_,_]:=oC
    refine wl_nil (qe_held (listed':=#[true,true,true,false,true,false,true,true,true,false,false,true,false]) u ⟨⟨fL.hasK (k.trans R),fL.hasObj m4⟩,(fun _=>trivial),by decide⟩ (wg_one (i:=3) (by kernel_rfl) u (lk co72 (ok_impl_cloneDocs F fL.enter0 (an.mono (k.trans R)) ao) ?_)))
    rintro ux uy ⟨fM,fN,fO,uz,rfl,aO,oD⟩
    have ex:=(fL.c0 aO).t6
    refine wl_nil (qe_held (listed':=#[true,true,true,true,true,false,true,true,true,false,false,true,false]) u ⟨⟨ex.hasK ((k.trans R).trans aO.le),ex.hasObj m5⟩,(fun _=>trivial),by decide⟩ (wg_val (i:=5) (listed':=#[true,true,true,true,true,true,true,true,true,false,false,true,false]) (fun _=>True) u (by kernel_rfl) (pk_then (pk_then pk_body)) (by kernel_rfl) u (by kernel_rfl) (by kernel_rfl) u (.inl fun _ _=>trivial) ⟨⟨ex.hasK ((k.trans R).trans aO.le),ex.hasObj m5⟩,(fun _=>trivial),by decide⟩ wn u (fun _ _=>(rv_build (cs:=#[V3 fM fN fO,V3 aF 0 0]) sp46 tf46 u (by kernel_rfl))) (wg_one (i:=9) (by kernel_rfl) u (lp underlying71 tf3 (aE.mono (R.trans aO.le)) (H.mono ((k.trans R).trans aO.le)) I ex.f3 fun jJ jK jL uA oE dq oF eA=>(wl_nil (qe_held (listed':=#[true,true,true,true,true,true,true,true,true,true,false,true,false]) u ⟨⟨eA.hasK (((k.trans R).trans aO.le).trans dq),eA.hasObj m5⟩,(fun _=>trivial),by decide⟩ ?_))))))
    refine wg_val (i:=10) (listed':=L_ 13 11) (fun _=>True) u (by kernel_rfl) (pk_then (pk_then pk_body)) (by kernel_rfl) u (by kernel_rfl) (by kernel_rfl) u (.inl fun _ _=>trivial) ⟨⟨eA.hasK (((k.trans R).trans aO.le).trans dq),eA.hasObj m5⟩,(fun _=>trivial),by decide⟩ wn u (fun _ _=>(rv_build (cs:=#[V3 fM fN fO,V3 aF 0 0,V3 jJ jK jL]) sp73 tf73 u (by kernel_rfl))) (wg_one (i:=12) (by kernel_rfl) u (lw [V3 fM fN fO,V3 aF 0 0,V3 jJ jK jL] tf73 eA.f2 fun uB jM=>(wl_nil (qe_held (listed':=L_ 13 12) u ⟨⟨jM.hasK (((k.trans R).trans aO.le).trans dq),jM.hasObj m5⟩,(fun _=>trivial),by decide⟩ (wg_done (by kernel_rfl) ?_)))))
    cases oi G
    exact qd ⟨mc,fM,fN,fO,aF,0,0,jJ,jK,jL,oE,u,jM.f4.f5.f3.f5.f4.s,(((k.trans R).trans aO.le).trans dq),(oD.mono dq),(jy.mono (aO.le.trans dq)),oF⟩
   refine al tf73 df fun fP uC oG=>?_
   have eB:SH _ _ _ _ _ [obj fP [V3 none 0 0,V3 none 0 0,V3 none 0 0] 73,_,_,_]:=oG
   refine wl_nil (qe_held (listed':=#[true,true,true,false,false,false,true,true,true,false,false,true,false]) u ⟨⟨eB.hasK k,eB.hasObj m3⟩,(fun _=>trivial),by decide⟩ (wg_many (l:=[3,4]) (by kernel_rfl) u ⟨⟨_,u,?_⟩,⟨_,u,?_⟩,trivial⟩))
   ·refine lk co72 (ok_impl_cloneDocs F eB.enter0 (an.mono k) ao) ?_
    rintro uD uE ⟨bu,bv,bz,uF,rfl,af,md⟩
    have fQ:=(eB.c0 af).t5
    refine wl_nil (qe_held (listed':=#[true,true,true,true,false,false,true,true,true,false,false,true,false]) u ⟨⟨fQ.hasK (k.trans af.le),fQ.hasObj m4⟩,(fun _=>trivial),by decide⟩ (wg_many (l:=[4,9]) (by kernel_rfl) u ⟨⟨_,u,?_⟩,⟨_,u,?_⟩,trivial⟩))
    ·refine b0 tGEntry underlying44 tf116 fQ fun fR uG uH be oH eC=>(wl_nil (qe_held (listed':=#[true,true,true,true,true,false,true,true,true,false,false,true,false]) u ⟨⟨eC.hasK ((k.trans af.le).trans be),eC.hasObj m5⟩,(fun _=>trivial),by decide⟩ (wg_val (i:=5) (listed':=#[true,true,true,true,true,true,true,true,true,false,false,true,false]) (fun _=>True) u (by kernel_rfl) (pk_then (pk_then pk_body)) (by kernel_rfl) u (by kernel_rfl) (by kernel_rfl) u (.inl fun _ _=>trivial) ⟨⟨eC.hasK ((k.trans af.le).trans be),eC.hasObj m5⟩,(fun _=>trivial),by decide⟩ wn u (fun _ _=>(rv_build (cs:=#[V3 bu bv bz,V3 fR 0 0]) sp46 tf46 u (by kernel_rfl))) (wg_one (i:=9) (by kernel_rfl) u (lp underlying71 tf3 (aE.mono (af.le.trans be)) (H.mono ((k.trans af.le).trans be)) I eC.f3 fun jN jO jP uI oI dr oJ eD=>(wl_nil (qe_held (listed':=#[true,true,true,true,true,true,true,true,true,true,false,true,false]) u ⟨⟨eD.hasK (((k.trans af.le).trans be).trans dr),eD.hasObj m5⟩,(fun _=>trivial),by decide⟩ ?_)))))))
     refine wg_val (i:=10) (listed':=L_ 13 11) (fun _=>True) u (by kernel_rfl) (pk_then (pk_then pk_body)) (by kernel_rfl) u (by kernel_rfl) (by kernel_rfl) u (.inl fun _ _=>trivial) ⟨⟨eD.hasK (((k.trans af.le).trans be).trans dr),eD.hasObj m5⟩,(fun _=>trivial),by decide⟩ wn u (fun _ _=>(rv_build (cs:=#[V3 bu bv bz,V3 fR 0 0,V3 jN jO jP]) sp73 tf73 u (by kernel_rfl))) (wg_one (i:=12) (by kernel_rfl) u (lw [V3 bu bv bz,V3 fR 0 0,V3 jN jO jP] tf73 eD.f3 fun uJ jQ=>(wl_nil (qe_held (listed':=L_ 13 12) u ⟨⟨jQ.hasK (((k.trans af.le).trans be).trans dr),jQ.hasObj m5⟩,(fun _=>trivial),by decide⟩ (wg_done (by kernel_rfl) ?_)))))
     cases oi G
     exact qd ⟨fP,bu,bv,bz,fR,0,0,jN,jO,jP,oI,u,jQ.f4.f5.f3.f4.f4.s,(((k.trans af.le).trans be).trans dr),(md.mono (be.trans dr)),(oH.mono dr),oJ⟩
    have oK:=fQ.f2
    refine lp underlying71 tf3 (aE.mono af.le) (H.mono (k.trans af.le)) I oK fun jR jS jT uK uL cp oL jU=>(wl_nil (qe_held (listed':=#[true,true,true,true,false,false,true,true,true,true,false,true,false]) u ⟨⟨jU.hasK ((k.trans af.le).trans cp),jU.hasObj m4⟩,(fun _=>trivial),by decide⟩ (wg_one (i:=4) (by kernel_rfl) u (b0 tGEntry underlying44 tf116 jU fun fS uM oM cq oN cr=>(wl_nil (qe_held (listed':=#[true,true,true,true,true,false,true,true,true,true,false,true,false]) u ⟨⟨cr.hasK (((k.trans af.le).trans cp).trans cq),cr.hasObj m5⟩,(fun _=>trivial),by decide⟩ (wg_val (i:=5) (listed':=#[true,true,true,true,true,true,true,true,true,true,false,true,false]) (fun _=>True) u (by kernel_rfl) (pk_then (pk_then pk_body)) (by kernel_rfl) u (by kernel_rfl) (by kernel_rfl) u (.inl fun _ _=>trivial) ⟨⟨cr.hasK (((k.trans af.le).trans cp).trans cq),cr.hasObj m5⟩,(fun _=>trivial),by decide⟩ wn u (fun _ _=>(rv_build (cs:=#[V3 bu bv bz,V3 fS 0 0]) sp46 tf46 u (by kernel_rfl))) ?_)))))))
    refine wg_val (i:=10) (listed':=L_ 13 11) (fun _=>True) u (by kernel_rfl) (pk_then (pk_then pk_body)) (by kernel_rfl) u (by kernel_rfl) (by kernel_rfl) u (.inl fun _ _=>trivial) ⟨⟨cr.hasK (((k.trans af.le).trans cp).trans cq),cr.hasObj m5⟩,(fun _=>trivial),by decide⟩ wn u (fun _ _=>(rv_build (cs:=#[V3 bu bv bz,V3 fS 0 0,V3 jR jS jT]) sp73 tf73 u (by kernel_rfl))) (wg_one (i:=12) (by kernel_rfl) u (lw [V3 bu bv bz,V3 fS 0 0,V3 jR jS jT] tf73 cr.f3 fun uN jV=>(wl_nil (qe_held (listed':=L_ 13 12) u ⟨⟨jV.hasK (((k.trans af.le).trans cp).trans cq),jV.hasObj m5⟩,(fun _=>trivial),by decide⟩ (wg_done (by kernel_rfl) ?_)))))
    cases oi G
    exact qd ⟨fP,bu,bv,bz,fS,0,0,jR,jS,jT,oM,u,jV.f4.f5.f4.f4.f4.s,(((k.trans af.le).trans cp).trans cq),(md.mono (cp.trans cq)),oN,(oL.mono cq)⟩
   refine b0 tGEntry underlying44 tf116 eB fun fT uO uP aP oO fU=>(wl_nil (qe_held (listed':=#[true,true,true,false,true,false,true,true,true,false,false,true,false]) u ⟨⟨fU.hasK (k.trans aP),fU.hasObj m4⟩,(fun _=>trivial),by decide⟩ (wg_one (i:=3) (by kernel_rfl) u (lk co72 (ok_impl_cloneDocs F fU.enter0 (an.mono (k.trans aP)) ao) ?_))))
   rintro uQ uR ⟨fV,fW,fX,uS,rfl,aQ,oP⟩
   have eE:=(fU.c0 aQ).t6
   refine wl_nil (qe_held (listed':=#[true,true,true,true,true,false,true,true,true,false,false,true,false]) u ⟨⟨eE.hasK ((k.trans aP).trans aQ.le),eE.hasObj m5⟩,(fun _=>trivial),by decide⟩ (wg_val (i:=5) (listed':=#[true,true,true,true,true,true,true,true,true,false,false,true,false]) (fun _=>True) u (by kernel_rfl) (pk_then (pk_then pk_body)) (by kernel_rfl) u (by kernel_rfl) (by kernel_rfl) u (.inl fun _ _=>trivial) ⟨⟨eE.hasK ((k.trans aP).trans aQ.le),eE.hasObj m5⟩,(fun _=>trivial),by decide⟩ wn u (fun _ _=>(rv_build (cs:=#[V3 fV fW fX,V3 fT 0 0]) sp46 tf46 u (by kernel_rfl))) (wg_one (i:=9) (by kernel_rfl) u (lp underlying71 tf3 (aE.mono (aP.trans aQ.le)) (H.mono ((k.trans aP).trans aQ.le)) I eE.f3 fun jW jX jY uT oQ dt oR eF=>(wl_nil (qe_held (listed':=#[true,true,true,true,true,true,true,true,true,true,false,true,false]) u ⟨⟨eF.hasK (((k.trans aP).trans aQ.le).trans dt),eF.hasObj m5⟩,(fun _=>trivial),by decide⟩ ?_))))))
   refine wg_val (i:=10) (listed':=L_ 13 11) (fun _=>True) u (by kernel_rfl) (pk_then (pk_then pk_body)) (by kernel_rfl) u (by kernel_rfl) (by kernel_rfl) u (.inl fun _ _=>trivial) ⟨⟨eF.hasK (((k.trans aP).trans aQ.le).trans dt),eF.hasObj m5⟩,(fun _=>trivial),by decide⟩ wn u (fun _ _=>(rv_build (cs:=#[V3 fV fW fX,V3 fT 0 0,V3 jW jX jY]) sp73 tf73 u (by kernel_rfl))) (wg_one (i:=12) (by kernel_rfl) u (lw [V3 fV fW fX,V3 fT 0 0,V3 jW jX jY] tf73 eF.f3 fun uU jZ=>(wl_nil (qe_held (listed':=L_ 13 12) u ⟨⟨jZ.hasK (((k.trans aP).trans aQ.le).trans dt),jZ.hasObj m5⟩,(fun _=>trivial),by decide⟩ (wg_done (by kernel_rfl) ?_)))))
   cases oi G
   exact qd ⟨fP,fV,fW,fX,fT,0,0,jW,jX,jY,oQ,u,jZ.f4.f5.f3.f5.f4.s,(((k.trans aP).trans aQ.le).trans dt),(oP.mono dt),(oO.mono (aQ.le.trans dt)),oR⟩
  refine al tf73 ap fun bf uV oS=>?_
  have du:SH _ _ _ _ _ [obj bf [V3 none 0 0,V3 none 0 0,V3 none 0 0] 73,_,_]:=oS
  refine wl_nil (qe_held (listed':=#[true,true,true,false,false,false,false,true,true,false,false,true,false]) u ⟨⟨du.hasK kr,du.hasObj m2⟩,(fun _=>trivial),by decide⟩ (wg_many (l:=[3,4,6]) (by kernel_rfl) u ⟨⟨_,u,?_⟩,⟨_,u,?_⟩,⟨_,u,?_⟩,trivial⟩))
  ·refine lk co72 (ok_impl_cloneDocs F du.enter0 an ao) ?_
   rintro uW uX ⟨aw,ax,ay,uY,rfl,V,ka⟩
   have fY:=(du.c0 V).t4
   refine wl_nil (qe_held (listed':=#[true,true,true,true,false,false,false,true,true,false,false,true,false]) u ⟨⟨fY.hasK V.le,fY.hasObj m3⟩,(fun _=>trivial),by decide⟩ (wg_many (l:=[4,6]) (by kernel_rfl) u ⟨⟨_,u,?_⟩,⟨_,u,?_⟩,trivial⟩))
   ·refine b0 tGEntry underlying44 tf116 fY fun fZ uZ vb bg oT eG=>(wl_nil (qe_held (listed':=#[true,true,true,true,true,false,false,true,true,false,false,true,false]) u ⟨⟨eG.hasK (V.le.trans bg),eG.hasObj m4⟩,(fun _=>trivial),by decide⟩ (wg_val (i:=5) (listed':=#[true,true,true,true,true,true,false,true,true,false,false,true,false]) (fun _=>True) u (by kernel_rfl) (pk_then (pk_then pk_body)) (by kernel_rfl) u (by kernel_rfl) (by kernel_rfl) u (.inl fun _ _=>trivial) ⟨⟨eG.hasK (V.le.trans bg),eG.hasObj m4⟩,(fun _=>trivial),by decide⟩ wn u (fun _ _=>(rv_build (cs:=#[V3 aw ax ay,V3 fZ 0 0]) sp46 tf46 u (by kernel_rfl))) (wg_one (i:=6) (by kernel_rfl) u (b0 tInt underlying71 tf3 eG fun vc vd ve bA oU kb=>(wl_nil (qe_held (listed':=#[true,true,true,true,true,true,true,true,true,false,false,true,false]) u ⟨⟨kb.hasK ((V.le.trans bg).trans bA),kb.hasObj m5⟩,(fun _=>trivial),by decide⟩ (wg_one (i:=9) (by kernel_rfl) u (lp underlying71 tf3 oU (H.mono ((V.le.trans bg).trans bA)) I kb fun ke kf ki vf oV dv oW eH=>?_)))))))))
    refine wl_nil (qe_held (listed':=#[true,true,true,true,true,true,true,true,true,true,false,true,false]) u ⟨⟨eH.hasK (((V.le.trans bg).trans bA).trans dv),eH.hasObj m5⟩,(fun _=>trivial),by decide⟩ (wg_val (i:=10) (listed':=L_ 13 11) (fun _=>True) u (by kernel_rfl) (pk_then (pk_then pk_body)) (by kernel_rfl) u (by kernel_rfl) (by kernel_rfl) u (.inl fun _ _=>trivial) ⟨⟨eH.hasK (((V.le.trans bg).trans bA).trans dv),eH.hasObj m5⟩,(fun _=>trivial),by decide⟩ wn u (fun _ _=>(rv_build (cs:=#[V3 aw ax ay,V3 fZ 0 0,V3 ke kf ki]) sp73 tf73 u (by kernel_rfl))) (wg_one (i:=12) (by kernel_rfl) u (lw [V3 aw ax ay,V3 fZ 0 0,V3 ke kf ki] tf73 eH.f3 fun vg kj=>(wl_nil (qe_held (listed':=L_ 13 12) u ⟨⟨kj.hasK (((V.le.trans bg).trans bA).trans dv),kj.hasObj m5⟩,(fun _=>trivial),by decide⟩ (wg_done (by kernel_rfl) ?_)))))))
    cases oi G
    exact qd ⟨bf,aw,ax,ay,fZ,0,0,ke,kf,ki,oV,u,kj.f4.f5.f3.f4.f4.s,(((V.le.trans bg).trans bA).trans dv),(ka.mono ((bg.trans bA).trans dv)),(oT.mono (bA.trans dv)),oW⟩
   refine b0 tInt underlying71 tf3 fY fun vh vi vj ak me ga=>(wl_nil (qe_held (listed':=#[true,true,true,true,false,false,true,true,true,false,false,true,false]) u ⟨⟨ga.hasK (V.le.trans ak),ga.hasObj m4⟩,(fun _=>trivial),by decide⟩ (wg_many (l:=[4,9]) (by kernel_rfl) u ⟨⟨_,u,?_⟩,⟨_,u,?_⟩,trivial⟩)))
   ·refine b0 tGEntry underlying44 tf116 ga fun gb vk vl bh oX eI=>(wl_nil (qe_held (listed':=#[true,true,true,true,true,false,true,true,true,false,false,true,false]) u ⟨⟨eI.hasK ((V.le.trans ak).trans bh),eI.hasObj m5⟩,(fun _=>trivial),by decide⟩ (wg_val (i:=5) (listed':=#[true,true,true,true,true,true,true,true,true,false,false,true,false]) (fun _=>True) u (by kernel_rfl) (pk_then (pk_then pk_body)) (by kernel_rfl) u (by kernel_rfl) (by kernel_rfl) u (.inl fun _ _=>trivial) ⟨⟨eI.hasK ((V.le.trans ak).trans bh),eI.hasObj m5⟩,(fun _=>trivial),by decide⟩ wn u (fun _ _=>(rv_build (cs:=#[V3 aw ax ay,V3 gb 0 0]) sp46 tf46 u (by kernel_rfl))) (wg_one (i:=9) (by kernel_rfl) u (lp underlying71 tf3 (me.mono bh) (H.mono ((V.le.trans ak).trans bh)) I eI.f1 fun kk kl ko vn oY dw oZ eJ=>(wl_nil (qe_held (listed':=#[true,true,true,true,true,true,true,true,true,true,false,true,false]) u ⟨⟨eJ.hasK (((V.le.trans ak).trans bh).trans dw),eJ.hasObj m5⟩,(fun _=>trivial),by decide⟩ ?_)))))))
    refine wg_val (i:=10) (listed':=L_ 13 11) (fun _=>True) u (by kernel_rfl) (pk_then (pk_then pk_body)) (by kernel_rfl) u (by kernel_rfl) (by kernel_rfl) u (.inl fun _ _=>trivial) ⟨⟨eJ.hasK (((V.le.trans ak).trans bh).trans dw),eJ.hasObj m5⟩,(fun _=>trivial),by decide⟩ wn u (fun _ _=>(rv_build (cs:=#[V3 aw ax ay,V3 gb 0 0,V3 kk kl ko]) sp73 tf73 u (by kernel_rfl))) (wg_one (i:=12) (by kernel_rfl) u (lw [V3 aw ax ay,V3 gb 0 0,V3 kk kl ko] tf73 eJ.f3 fun vo kp=>(wl_nil (qe_held (listed':=L_ 13 12) u ⟨⟨kp.hasK (((V.le.trans ak).trans bh).trans dw),kp.hasObj m5⟩,(fun _=>trivial),by decide⟩ (wg_done (by kernel_rfl) ?_)))))
    cases oi G
    exact qd ⟨bf,aw,ax,ay,gb,0,0,kk,kl,ko,oY,u,kp.f4.f5.f3.f4.f4.s,(((V.le.trans ak).trans bh).trans dw),(ka.mono ((ak.trans bh).trans dw)),(oX.mono dw),oZ⟩
   refine lp underlying71 tf3 me (H.mono (V.le.trans ak)) I ga fun kq ks kt vp vq ct pa kw=>(wl_nil (qe_held (listed':=#[true,true,true,true,false,false,true,true,true,true,false,true,false]) u ⟨⟨kw.hasK ((V.le.trans ak).trans ct),kw.hasObj m4⟩,(fun _=>trivial),by decide⟩ (wg_one (i:=4) (by kernel_rfl) u (b0 tGEntry underlying44 tf116 kw fun gc vr pb cu pc cv=>(wl_nil (qe_held (listed':=#[true,true,true,true,true,false,true,true,true,true,false,true,false]) u ⟨⟨cv.hasK (((V.le.trans ak).trans ct).trans cu),cv.hasObj m5⟩,(fun _=>trivial),by decide⟩ (wg_val (i:=5) (listed':=#[true,true,true,true,true,true,true,true,true,true,false,true,false]) (fun _=>True) u (by kernel_rfl) (pk_then (pk_then pk_body)) (by kernel_rfl) u (by kernel_rfl) (by kernel_rfl) u (.inl fun _ _=>trivial) ⟨⟨cv.hasK (((V.le.trans ak).trans ct).trans cu),cv.hasObj m5⟩,(fun _=>trivial),by decide⟩ wn u (fun _ _=>(rv_build (cs:=#[V3 aw ax ay,V3 gc 0 0]) sp46 tf46 u (by kernel_rfl))) ?_)))))))
   refine wg_val (i:=10) (listed':=L_ 13 11) (fun _=>True) u (by kernel_rfl) (pk_then (pk_then pk_body)) (by kernel_rfl) u (by kernel_rfl) (by kernel_rfl) u (.inl fun _ _=>trivial) ⟨⟨cv.hasK (((V.le.trans ak).trans ct).trans cu),cv.hasObj m5⟩,(fun _=>trivial),by decide⟩ wn u (fun _ _=>(rv_build (cs:=#[V3 aw ax ay,V3 gc 0 0,V3 kq ks kt]) sp73 tf73 u (by kernel_rfl))) (wg_one (i:=12) (by kernel_rfl) u (lw [V3 aw ax ay,V3 gc 0 0,V3 kq ks kt] tf73 cv.f3 fun vs kx=>(wl_nil (qe_held (listed':=L_ 13 12) u ⟨⟨kx.hasK (((V.le.trans ak).trans ct).trans cu),kx.hasObj m5⟩,(fun _=>trivial),by decide⟩ (wg_done (by kernel_rfl) ?_)))))
   cases oi G
   exact qd ⟨bf,aw,ax,ay,gc,0,0,kq,ks,kt,pb,u,kx.f4.f5.f4.f4.f4.s,(((V.le.trans ak).trans ct).trans cu),(ka.mono ((ak.trans ct).trans cu)),pc,(pa.mono cu)⟩
  ·refine b0 tGEntry underlying44 tf116 du fun bB vt vu ac mf eK=>(wl_nil (qe_held (listed':=#[true,true,true,false,true,false,false,true,true,false,false,true,false]) u ⟨⟨eK.hasK ac,eK.hasObj m3⟩,(fun _=>trivial),by decide⟩ (wg_many (l:=[3,6]) (by kernel_rfl) u ⟨⟨_,u,?_⟩,⟨_,u,?_⟩,trivial⟩)))
   ·refine lk co72 (ok_impl_cloneDocs F eK.enter0 (an.mono ac) ao) ?_
    rintro vv vw ⟨gd,ge,gg,vx,rfl,aR,pd⟩
    have eL:=(eK.c0 aR).t5
    refine wl_nil (qe_held (listed':=#[true,true,true,true,true,false,false,true,true,false,false,true,false]) u ⟨⟨eL.hasK (ac.trans aR.le),eL.hasObj m4⟩,(fun _=>trivial),by decide⟩ (wg_val (i:=5) (listed':=#[true,true,true,true,true,true,false,true,true,false,false,true,false]) (fun _=>True) u (by kernel_rfl) (pk_then (pk_then pk_body)) (by kernel_rfl) u (by kernel_rfl) (by kernel_rfl) u (.inl fun _ _=>trivial) ⟨⟨eL.hasK (ac.trans aR.le),eL.hasObj m4⟩,(fun _=>trivial),by decide⟩ wn u (fun _ _=>(rv_build (cs:=#[V3 gd ge gg,V3 bB 0 0]) sp46 tf46 u (by kernel_rfl))) (wg_one (i:=6) (by kernel_rfl) u (b0 tInt underlying71 tf3 eL fun vy vz vA bC pe ky=>(wl_nil (qe_held (listed':=#[true,true,true,true,true,true,true,true,true,false,false,true,false]) u ⟨⟨ky.hasK ((ac.trans aR.le).trans bC),ky.hasObj m5⟩,(fun _=>trivial),by decide⟩ (wg_one (i:=9) (by kernel_rfl) u (lp underlying71 tf3 pe (H.mono ((ac.trans aR.le).trans bC)) I ky fun kz kA kB vB pf dx pg eM=>?_))))))))
    refine wl_nil (qe_held (listed':=#[true,true,true,true,true,true,true,true,true,true,false,true,false]) u ⟨⟨eM.hasK (((ac.trans aR.le).trans bC).trans dx),eM.hasObj m5⟩,(fun _=>trivial),by decide⟩ (wg_val (i:=10) (listed':=L_ 13 11) (fun _=>True) u (by kernel_rfl) (pk_then (pk_then pk_body)) (by kernel_rfl) u (by kernel_rfl) (by kernel_rfl) u (.inl fun _ _=>trivial) ⟨⟨eM.hasK (((ac.trans aR.le).trans bC).trans dx),eM.hasObj m5⟩,(fun _=>trivial),by decide⟩ wn u (fun _ _=>(rv_build (cs:=#[V3 gd ge gg,V3 bB 0 0,V3 kz kA kB]) sp73 tf73 u (by kernel_rfl))) (wg_one (i:=12) (by kernel_rfl) u (lw [V3 gd ge gg,V3 bB 0 0,V3 kz kA kB] tf73 eM.f3 fun vC kC=>(wl_nil (qe_held (listed':=L_ 13 12) u ⟨⟨kC.hasK (((ac.trans aR.le).trans bC).trans dx),kC.hasObj m5⟩,(fun _=>trivial),by decide⟩ (wg_done (by kernel_rfl) ?_)))))))
    cases oi G
    exact qd ⟨bf,gd,ge,gg,bB,0,0,kz,kA,kB,pf,u,kC.f4.f5.f3.f5.f4.s,(((ac.trans aR.le).trans bC).trans dx),(pd.mono (bC.trans dx)),(mf.mono ((aR.le.trans bC).trans dx)),pg⟩
   refine b0 tInt underlying71 tf3 eK fun vD vE vF aS ph gj=>(wl_nil (qe_held (listed':=#[true,true,true,false,true,false,true,true,true,false,false,true,false]) u ⟨⟨gj.hasK (ac.trans aS),gj.hasObj m4⟩,(fun _=>trivial),by decide⟩ (wg_one (i:=3) (by kernel_rfl) u (lk co72 (ok_impl_cloneDocs F gj.enter0 (an.mono (ac.trans aS)) ao) ?_))))
   rintro vG vH ⟨gk,gl,gm,vI,rfl,aT,pi⟩
   have eN:=(gj.c0 aT).t6
   refine wl_nil (qe_held (listed':=#[true,true,true,true,true,false,true,true,true,false,false,true,false]) u ⟨⟨eN.hasK ((ac.trans aS).trans aT.le),eN.hasObj m5⟩,(fun _=>trivial),by decide⟩ (wg_val (i:=5) (listed':=#[true,true,true,true,true,true,true,true,true,false,false,true,false]) (fun _=>True) u (by kernel_rfl) (pk_then (pk_then pk_body)) (by kernel_rfl) u (by kernel_rfl) (by kernel_rfl) u (.inl fun _ _=>trivial) ⟨⟨eN.hasK ((ac.trans aS).trans aT.le),eN.hasObj m5⟩,(fun _=>trivial),by decide⟩ wn u (fun _ _=>(rv_build (cs:=#[V3 gk gl gm,V3 bB 0 0]) sp46 tf46 u (by kernel_rfl))) (wg_one (i:=9) (by kernel_rfl) u (lp underlying71 tf3 (ph.mono aT.le) (H.mono ((ac.trans aS).trans aT.le)) I eN.f1 fun kD kE kF vJ pj dy pk eO=>(wl_nil (qe_held (listed':=#[true,true,true,true,true,true,true,true,true,true,false,true,false]) u ⟨⟨eO.hasK (((ac.trans aS).trans aT.le).trans dy),eO.hasObj m5⟩,(fun _=>trivial),by decide⟩ ?_))))))
   refine wg_val (i:=10) (listed':=L_ 13 11) (fun _=>True) u (by kernel_rfl) (pk_then (pk_then pk_body)) (by kernel_rfl) u (by kernel_rfl) (by kernel_rfl) u (.inl fun _ _=>trivial) ⟨⟨eO.hasK (((ac.trans aS).trans aT.le).trans dy),eO.hasObj m5⟩,(fun _=>trivial),by decide⟩ wn u (fun _ _=>(rv_build (cs:=#[V3 gk gl gm,V3 bB 0 0,V3 kD kE kF]) sp73 tf73 u (by kernel_rfl))) (wg_one (i:=12) (by kernel_rfl) u (lw [V3 gk gl gm,V3 bB 0 0,V3 kD kE kF] tf73 eO.f3 fun vK kG=>(wl_nil (qe_held (listed':=L_ 13 12) u ⟨⟨kG.hasK (((ac.trans aS).trans aT.le).trans dy),kG.hasObj m5⟩,(fun _=>trivial),by decide⟩ (wg_done (by kernel_rfl) ?_)))))
   cases oi G
   exact qd ⟨bf,gk,gl,gm,bB,0,0,kD,kE,kF,pj,u,kG.f4.f5.f3.f5.f4.s,(((ac.trans aS).trans aT.le).trans dy),(pi.mono dy),(mf.mono ((aS.trans aT.le).trans dy)),pk⟩
  refine b0 tInt underlying71 tf3 du fun vL vM vN T kH eP=>(wl_nil (qe_held (listed':=#[true,true,true,false,false,false,true,true,true,false,false,true,false]) u ⟨⟨eP.hasK T,eP.hasObj m3⟩,(fun _=>trivial),by decide⟩ (wg_many (l:=[3,4]) (by kernel_rfl) u ⟨⟨_,u,?_⟩,⟨_,u,?_⟩,trivial⟩)))
  ·refine lk co72 (ok_impl_cloneDocs F eP.enter0 (an.mono T) ao) ?_
   rintro vO vP ⟨bD,bE,bF,vQ,rfl,ag,mg⟩
   have go:=(eP.c0 ag).t5
   refine wl_nil (qe_held (listed':=#[true,true,true,true,false,false,true,true,true,false,false,true,false]) u ⟨⟨go.hasK (T.trans ag.le),go.hasObj m4⟩,(fun _=>trivial),by decide⟩ (wg_many (l:=[4,9]) (by kernel_rfl) u ⟨⟨_,u,?_⟩,⟨_,u,?_⟩,trivial⟩))
   ·refine b0 tGEntry underlying44 tf116 go fun gp vR vS bi pl eQ=>(wl_nil (qe_held (listed':=#[true,true,true,true,true,false,true,true,true,false,false,true,false]) u ⟨⟨eQ.hasK ((T.trans ag.le).trans bi),eQ.hasObj m5⟩,(fun _=>trivial),by decide⟩ (wg_val (i:=5) (listed':=#[true,true,true,true,true,true,true,true,true,false,false,true,false]) (fun _=>True) u (by kernel_rfl) (pk_then (pk_then pk_body)) (by kernel_rfl) u (by kernel_rfl) (by kernel_rfl) u (.inl fun _ _=>trivial) ⟨⟨eQ.hasK ((T.trans ag.le).trans bi),eQ.hasObj m5⟩,(fun _=>trivial),by decide⟩ wn u (fun _ _=>(rv_build (cs:=#[V3 bD bE bF,V3 gp 0 0]) sp46 tf46 u (by kernel_rfl))) (wg_one (i:=9) (by kernel_rfl) u (lp underlying71 tf3 (kH.mono (ag.le.trans bi)) (H.mono ((T.trans ag.le).trans bi)) I eQ.f2 fun kI kJ kK vT pm dz pn eR=>(wl_nil (qe_held (listed':=#[true,true,true,true,true,true,true,true,true,true,false,true,false]) u ⟨⟨eR.hasK (((T.trans ag.le).trans bi).trans dz),eR.hasObj m5⟩,(fun _=>trivial),by decide⟩ ?_)))))))
    refine wg_val (i:=10) (listed':=L_ 13 11) (fun _=>True) u (by kernel_rfl) (pk_then (pk_then pk_body)) (by kernel_rfl) u (by kernel_rfl) (by kernel_rfl) u (.inl fun _ _=>trivial) ⟨⟨eR.hasK (((T.trans ag.le).trans bi).trans dz),eR.hasObj m5⟩,(fun _=>trivial),by decide⟩ wn u (fun _ _=>(rv_build (cs:=#[V3 bD bE bF,V3 gp 0 0,V3 kI kJ kK]) sp73 tf73 u (by kernel_rfl))) (wg_one (i:=12) (by kernel_rfl) u (lw [V3 bD bE bF,V3 gp 0 0,V3 kI kJ kK] tf73 eR.f3 fun vU kL=>(wl_nil (qe_held (listed':=L_ 13 12) u ⟨⟨kL.hasK (((T.trans ag.le).trans bi).trans dz),kL.hasObj m5⟩,(fun _=>trivial),by decide⟩ (wg_done (by kernel_rfl) ?_)))))
    cases oi G
    exact qd ⟨bf,bD,bE,bF,gp,0,0,kI,kJ,kK,pm,u,kL.f4.f5.f3.f4.f4.s,(((T.trans ag.le).trans bi).trans dz),(mg.mono (bi.trans dz)),(pl.mono dz),pn⟩
   have po:=go.f1
   refine lp underlying71 tf3 (kH.mono ag.le) (H.mono (T.trans ag.le)) I po fun kM kN kO vV vW cw pp kP=>(wl_nil (qe_held (listed':=#[true,true,true,true,false,false,true,true,true,true,false,true,false]) u ⟨⟨kP.hasK ((T.trans ag.le).trans cw),kP.hasObj m4⟩,(fun _=>trivial),by decide⟩ (wg_one (i:=4) (by kernel_rfl) u (b0 tGEntry underlying44 tf116 kP fun gq vX pq cx pr cy=>(wl_nil (qe_held (listed':=#[true,true,true,true,true,false,true,true,true,true,false,true,false]) u ⟨⟨cy.hasK (((T.trans ag.le).trans cw).trans cx),cy.hasObj m5⟩,(fun _=>trivial),by decide⟩ (wg_val (i:=5) (listed':=#[true,true,true,true,true,true,true,true,true,true,false,true,false]) (fun _=>True) u (by kernel_rfl) (pk_then (pk_then pk_body)) (by kernel_rfl) u (by kernel_rfl) (by kernel_rfl) u (.inl fun _ _=>trivial) ⟨⟨cy.hasK (((T.trans ag.le).trans cw).trans cx),cy.hasObj m5⟩,(fun _=>trivial),by decide⟩ wn u (fun _ _=>(rv_build (cs:=#[V3 bD bE bF,V3 gq 0 0]) sp46 tf46 u (by kernel_rfl))) ?_)))))))
   refine wg_val (i:=10) (listed':=L_ 13 11) (fun _=>True) u (by kernel_rfl) (pk_then (pk_then pk_body)) (by kernel_rfl) u (by kernel_rfl) (by kernel_rfl) u (.inl fun _ _=>trivial) ⟨⟨cy.hasK (((T.trans ag.le).trans cw).trans cx),cy.hasObj m5⟩,(fun _=>trivial),by decide⟩ wn u (fun _ _=>(rv_build (cs:=#[V3 bD bE bF,V3 gq 0 0,V3 kM kN kO]) sp73 tf73 u (by kernel_rfl))) (wg_one (i:=12) (by kernel_rfl) u (lw [V3 bD bE bF,V3 gq 0 0,V3 kM kN kO] tf73 cy.f3 fun vY kQ=>(wl_nil (qe_held (listed':=L_ 13 12) u ⟨⟨kQ.hasK (((T.trans ag.le).trans cw).trans cx),kQ.hasObj m5⟩,(fun _=>trivial),by decide⟩ (wg_done (by kernel_rfl) ?_)))))
   cases oi G
   exact qd ⟨bf,bD,bE,bF,gq,0,0,kM,kN,kO,pq,u,kQ.f4.f5.f4.f4.f4.s,(((T.trans ag.le).trans cw).trans cx),(mg.mono (cw.trans cx)),pr,(pp.mono cx)⟩
  refine b0 tGEntry underlying44 tf116 eP fun gr vZ wa aU ps gv=>(wl_nil (qe_held (listed':=#[true,true,true,false,true,false,true,true,true,false,false,true,false]) u ⟨⟨gv.hasK (T.trans aU),gv.hasObj m4⟩,(fun _=>trivial),by decide⟩ (wg_one (i:=3) (by kernel_rfl) u (lk co72 (ok_impl_cloneDocs F gv.enter0 (an.mono (T.trans aU)) ao) ?_))))
  rintro wb wc ⟨gw,gx,gy,wd,rfl,aV,pu⟩
  have eS:=(gv.c0 aV).t6
  refine wl_nil (qe_held (listed':=#[true,true,true,true,true,false,true,true,true,false,false,true,false]) u ⟨⟨eS.hasK ((T.trans aU).trans aV.le),eS.hasObj m5⟩,(fun _=>trivial),by decide⟩ (wg_val (i:=5) (listed':=#[true,true,true,true,true,true,true,true,true,false,false,true,false]) (fun _=>True) u (by kernel_rfl) (pk_then (pk_then pk_body)) (by kernel_rfl) u (by kernel_rfl) (by kernel_rfl) u (.inl fun _ _=>trivial) ⟨⟨eS.hasK ((T.trans aU).trans aV.le),eS.hasObj m5⟩,(fun _=>trivial),by decide⟩ wn u (fun _ _=>(rv_build (cs:=#[V3 gw gx gy,V3 gr 0 0]) sp46 tf46 u (by kernel_rfl))) (wg_one (i:=9) (by kernel_rfl) u (lp underlying71 tf3 (kH.mono (aU.trans aV.le)) (H.mono ((T.trans aU).trans aV.le)) I eS.f2 fun kR kS kT we pv dA pw eT=>(wl_nil (qe_held (listed':=#[true,true,true,true,true,true,true,true,true,true,false,true,false]) u ⟨⟨eT.hasK (((T.trans aU).trans aV.le).trans dA),eT.hasObj m5⟩,(fun _=>trivial),by decide⟩ ?_))))))
  refine wg_val (i:=10) (listed':=L_ 13 11) (fun _=>True) u (by kernel_rfl) (pk_then (pk_then pk_body)) (by kernel_rfl) u (by kernel_rfl) (by kernel_rfl) u (.inl fun _ _=>trivial) ⟨⟨eT.hasK (((T.trans aU).trans aV.le).trans dA),eT.hasObj m5⟩,(fun _=>trivial),by decide⟩ wn u (fun _ _=>(rv_build (cs:=#[V3 gw gx gy,V3 gr 0 0,V3 kR kS kT]) sp73 tf73 u (by kernel_rfl))) (wg_one (i:=12) (by kernel_rfl) u (lw [V3 gw gx gy,V3 gr 0 0,V3 kR kS kT] tf73 eT.f3 fun wf kU=>(wl_nil (qe_held (listed':=L_ 13 12) u ⟨⟨kU.hasK (((T.trans aU).trans aV.le).trans dA),kU.hasObj m5⟩,(fun _=>trivial),by decide⟩ (wg_done (by kernel_rfl) ?_)))))
  cases oi G
  exact qd ⟨bf,gw,gx,gy,gr,0,0,kR,kS,kT,pv,u,kU.f4.f5.f3.f5.f4.s,(((T.trans aU).trans aV.le).trans dA),(pu.mono dA),(ps.mono (aV.le.trans dA)),pw⟩
 rintro _ wh ⟨aD,fb,fc,fd,dH,dI,dJ,dK,dL,dM,aZ,rfl,mh,kV,px,py,pz⟩
 refine qs (sr (fa ff73_0 u (fl ff46_1 u tf44 m3 mh u (lv (rv_len underlying44 u (gM.mono kV)) (lv (r_m u) (nq ?_))))))
 obtain⟨kW,pA,pB⟩:=ob mu
 refine wc_cutg (fun E' w'=>∃dB dC dD cz cA cB cC cD cE cF,E'=[(2,pt aC),(3,pt aD)]∧SH w K [] w' cF [obj aD [V3 dB dC dD,V3 cz cA cB,V3 cC cD cE] 73,tail (V3 cz cA cB) 116 3,tail (V3 cC cD cE) 3 1,obj aC [V3 none 0 0,V3 none 0 0,V3 none 0 0] 73]∧KLe aZ cF∧SliceAt tGDoc cF dB dC dD kW.Seg.Docs∧SliceAt tGEntry cF cz cA cB kW.Seg.Entries∧SliceAt tInt cF cC cD cE kW.Dead) ?_ ?_
 ·refine wc_block ?_
  obtain⟨wi,pC,pD⟩:=ob pA
  have pE:=mh.sb (sk (sk (sk (sd (sk sz)))))
  refine qF (fun (gz:Nat) (eU:GLive) E' w'=>∃bj bk bl aW aX aY az aA aB bG,E'=[(2,pt aC),(3,pt aD),(22,V3 B c d),(23,V6 (q0.Seg.Entries.length:Int)),(24,V6 ((gz:Nat):Int))]∧SH w K [] w' bG [obj aD [V3 bj bk bl,V3 aW aX aY,V3 az aA aB] 73,tail (V3 aW aX aY) 116 3,tail (V3 az aA aB) 3 1,obj aC [V3 none 0 0,V3 none 0 0,V3 none 0 0] 73]∧KLe aZ bG∧SliceAt tGDoc bG bj bk bl eU.Seg.Docs∧SliceAt tGEntry bG aW aX aY eU.Seg.Entries∧SliceAt tInt bG az aA aB eU.Dead) pC ⟨fb,fc,fd,dH,dI,dJ,dK,dL,dM,aZ,u,pE,kr,px,py,pz⟩ ?_ ?_
  ·rintro gz eU _ pF wj hi1309 pG ⟨bj,bk,bl,aW,aX,aY,az,aA,aB,bG,rfl,gA,gB,kX,kY,kZ⟩
   refine sr (lv (rv_lss u u) (ns (wc_cond_t u (decide_eq_true (by omega)) (wc_skip (qe_seq (wc_seq (wc_block (sr ?_))))))))
   obtain⟨am,pH,pI⟩:=ob pG
   refine li underlying44 tf116 (gM.mono (kV.trans gB)) pH fun pJ pK wk pL pM=>?_
   obtain⟨eV,eW,eX,rfl,pN,pO,la⟩:=pL
   have pP:AtK _ pJ pK [sv am.Field,sv am.Term,V3 eV eW eX]:=pM
   refine lv (rv_loadS tf116 u gA pP u) (al tf116 gA fun eY wl pQ=>?_)
   have pR:SH _ _ _ _ _ [obj eY [sv [],sv [],V3 none 0 0] 116,_,_,_,_]:=pQ
   refine lw [sv am.Field,sv am.Term,V3 eV eW eX] tf116 pR fun wm pS=>(nr (b0 tGPost underlying61 tf134 pS fun pT wo ld cG pU mi=>(av u (nsr (fl ff116_2 u tf61 m1 mi u (lv (rv_len underlying61 u (la.mono cG)) (lv (r_m u) (nq ?_))))))))
   obtain⟨mj,pV,pW⟩:=ob pI
   refine wc_cutg (fun E' w'=>∃bH bI bJ gC,E'=[(2,pt aC),(3,pt aD),(5,pt eY),(6,V3 bH bI bJ),(22,V3 B c d),(23,V6 (q0.Seg.Entries.length:Int)),(24,V6 ((gz:Nat):Int))]∧SH w K [] w' gC [obj aD [V3 bj bk bl,V3 aW aX aY,V3 az aA aB] 73,tail (V3 aW aX aY) 116 3,tail (V3 az aA aB) 3 1,obj aC [V3 none 0 0,V3 none 0 0,V3 none 0 0] 73,obj eY [sv am.Field,sv am.Term,V3 eV eW eX] 116,tail (V3 bH bI bJ) 134 2]∧KLe ld gC∧SliceAt tGPost gC bH bI bJ mj) ?_ ?_
   ·refine wc_block ?_
    obtain⟨wp,pX,pY⟩:=ob pV
    refine qF (fun (mk:Nat) (le:(List GPost)) E' w'=>∃dE dF dG cH,E'=[(2,pt aC),(3,pt aD),(5,pt eY),(6,V3 dE dF dG),(22,V3 B c d),(23,V6 (q0.Seg.Entries.length:Int)),(24,V6 ((gz:Nat):Int)),(30,V3 eV eW eX),(31,V6 (am.Posts.length:Int)),(32,V6 ((mk:Nat):Int))]∧SH w K [] w' cH [obj aD [V3 bj bk bl,V3 aW aX aY,V3 az aA aB] 73,tail (V3 aW aX aY) 116 3,tail (V3 az aA aB) 3 1,obj aC [V3 none 0 0,V3 none 0 0,V3 none 0 0] 73,obj eY [sv am.Field,sv am.Term,V3 eV eW eX] 116,tail (V3 dE dF dG) 134 2]∧KLe ld cH∧SliceAt tGPost cH dE dF dG le) pX ⟨pT,0,0,ld,u,mi.f1.f5.f5.f5.f5,kr,pU⟩ ?_ ?_
    ·rintro mk le _ pZ wq hi1369 qa ⟨dE,dF,dG,cH,rfl,gD,gE,lf⟩
     refine sr (lv (rv_lss u u) (ns (wc_cond_t u (decide_eq_true (by omega)) (wc_skip (qe_seq (wc_seq (wc_block (sr ?_))))))))
     obtain⟨cI,qb,qc⟩:=ob qa
     refine li underlying61 tf134 (la.mono (cG.trans gE)) qb fun qe qf wr qi qj=>?_
     obtain⟨lh,lj,ll,rfl,qk,ql⟩:=qi
     have qn:AtK _ qe qf [V6 cI.Doc,V3 lh lj ll]:=qj
     refine lv (rv_loadS tf134 u gD qn u) (al tf134 gD fun ml ws qo=>?_)
     have qp:SH _ _ _ _ _ [obj ml [V6 0,V3 none 0 0] 134,_,_,_,_,_,_]:=qo
     refine lw [V6 cI.Doc,V3 lh lj ll] tf134 qp fun wt qq=>(nq ?_)
     have lm:=qq.drew
     refine j_0 (fun w'=>Holds cH w'∧HasObj ml [V6 cI.Doc,V3 lh lj ll] w') 11 [] mixed ⟨lm.hasK kr,lm.hasObj m0⟩ (jv 0 u (rv_move u) (jv 1 u (rv_fieldAddr ff134_0 u) (jh 2 u (fun _ h=>rh_loadm1 tf3 u u h.2) (jv 4 u (rv_fieldAddr ff134_1 u) (jh 5 u (fun _ h=>rh_loadm1 tf71 u u h.2) (j1 3 u (b0 tInt underlying71 tf3 lm fun wu wv ww cJ qt ln=>(j_o ⟨ln.hasK cJ,ln.hasObj m1⟩ (j1 6 u ?_)))))))))
     obtain⟨qw,qx,qy⟩:=ob qc
     refine lp underlying71 tf3 qt (ql.mono cJ) qx ln fun gF gG gH wx wy eZ qz lo=>(j_o ⟨lo.hasK (cJ.trans eZ),lo.hasObj m1⟩ (jv 7 u (rv_build (cs:=#[V6 cI.Doc,V3 gF gG gH]) sp134 tf134 u (by kernel_rfl)) (j1 8 u (lb tGPost (.agg #[V6 cI.Doc,V3 gF gG gH]) [V6 cI.Doc,V3 gF gG gH] (GPost.mk cI.Doc qw) underlying61 tf134 ⟨gF,gG,gH,u,qk,qz⟩ lo fun wz wA wB gI qA lq=>(j_o ⟨lq.hasK ((cJ.trans eZ).trans gI),lq.hasObj m2⟩ (j1 9 u ?_))))))
     obtain⟨wC,qB,qC⟩:=ob qy
     refine lp underlying61 tf134 (lf.mono ((cJ.trans eZ).trans gI)) qA qB lq.f8 fun qD qE qG wD qH mm qI lr=>(j_o ⟨lr.hasK (((cJ.trans eZ).trans gI).trans mm),lr.hasObj m3⟩ (jv 10 u (rv_assign u) (jd (qe_block (qg (lv (rv_add_to u u (w64_succ hi1369 (SliceAt.max (la.mono cG)))) (mv u (wl_nil ?_))))))))
     cases oi qC
     exact qd ⟨qD,qE,qG,qH,u,lr.f8.f8.f8.f8.f8.s,((((gE.trans cJ).trans eZ).trans gI).trans mm),qI⟩
    rintro le _ pZ qJ ⟨dE,dF,dG,cH,rfl,gD,gE,lf⟩
    subst qJ
    refine sr (lv (rv_lss u u) (ns (wc_cond_f u (decide_eq_false (by omega)) (wc_exit (qe_then_exit (qe_then_exit (qe_block_eq ?_)))))))
    cases oi pY
    exact qd ⟨dE,dF,dG,cH,u,gD,gE,lf⟩
   rintro _ wE ⟨bH,bI,bJ,gC,rfl,gJ,gK,qK⟩
   refine qe_seq (wc_region (fa ff73_0 u (fl ff46_1 u tf44 m0 gJ u (fl ff116_0 u tf9 m4 gJ u (fl ff116_1 u tf9 m4 gJ u (mv u (lv (rv_build (cs:=#[sv am.Field,sv am.Term,V3 bH bI bJ]) sp116 tf116 u (by kernel_rfl)) (lb tGEntry (.agg #[sv am.Field,sv am.Term,V3 bH bI bJ]) [sv am.Field,sv am.Term,V3 bH bI bJ] (GEntry.mk am.Field am.Term mj) underlying44 tf116 ⟨bH,bI,bJ,u,pN,pO,qK⟩ gJ fun wF wG wH gL qL qM=>?_))))))))
   obtain⟨wI,qN,qO⟩:=ob pW
   refine lp underlying44 tf116 (kY.mono ((cG.trans gK).trans gL)) qL qN qM.f2 fun lt lx ly wJ qP lz qQ qR=>(fa ff73_0 u (fa ff46_1 u (ls [V3 bj bk bl,V3 lt lx ly,V3 az aA aB] (V3 lt lx ly) tf44 qR.f2 fun wK qS=>(nb (qg (lv (rv_add_to u u (w64_succ hi1309 (SliceAt.max (gM.mono kV)))) (mv u (wl_nil ?_))))))))
   cases oi qO
   exact qd ⟨bj,bk,bl,lt,lx,ly,az,aA,aB,qP,u,qS.s,((((gB.trans cG).trans gK).trans gL).trans lz),(SliceAt.mono (((cG.trans gK).trans gL).trans lz) kX),qQ,(SliceAt.mono (((cG.trans gK).trans gL).trans lz) kZ)⟩
  rintro eU _ pF qT ⟨bj,bk,bl,aW,aX,aY,az,aA,aB,bG,rfl,gA,gB,kX,kY,kZ⟩
  subst qT
  refine sr (lv (rv_lss u u) (ns (wc_cond_f u (decide_eq_false (by omega)) (wc_exit (qe_then_exit (qe_then_exit (qe_block_eq ?_)))))))
  cases oi pD
  exact qd ⟨bj,bk,bl,aW,aX,aY,az,aA,aB,bG,u,gA,gB,kX,kY,kZ⟩
 rintro _ wL ⟨dB,dC,dD,cz,cA,cB,cC,cD,cE,cF,rfl,mn,wM,qU,qV,qW⟩
 refine qr (lv (rv_loadmS (ds:=[V3 dB dC dD,V3 cz cA cB,V3 cC cD cE]) tf73 u m0 mn u u) (lw [V3 dB dC dD,V3 cz cA cB,V3 cC cD cE] tf73 mn.f3 fun wN mo=>(nq (wc_ret ?_))))
 cases oi pB
 exact ez results172 tf73 mo m0 ⟨dB,dC,dD,cz,cA,cB,cC,cD,cE,cF,u,mo.s,qU,qV,qW⟩

theorem ok_impl_cloneIndex {q0:GIndex}{r:GIndex}(hS:SH w K [] w K [])(bf:SliceAt tStr K A a b q0.Conf.Stops)(bg:SliceAt tGSyn K B c d q0.Conf.Syns)(az:SliceAt tGLive K C f i q0.Segs)(hm:M.impl_cloneIndex F q0=some r):
  Calls prog 107 #[.agg #[V3 A a b,V3 B c d,V3 C f i]] w fun e w'=>∃a_1 n_2 c_3 a_5 n_6 c_7 a_9 n_10 c_11 K',e= .returned (.agg #[V3 a_1 n_2 c_3,V3 a_5 n_6 c_7,V3 a_9 n_10 c_11])∧SH w K [] w' K' [tail (V3 a_9 n_10 c_11) 73 3]∧SliceAt tStr K' a_1 n_2 c_3 r.Conf.Stops∧SliceAt tGSyn K' a_5 n_6 c_7 r.Conf.Syns∧SliceAt tGLive K' a_9 n_10 c_11 r.Segs:=by
 rw [M.impl_cloneIndex] at hm
 refine ci func107 u ntmps107 (sr (bx u hS fun bh ch bi=>?_))
 have bj:SH _ _ _ _ _ [obj bh [V3 A a b,V3 B c d,V3 C f i] 36]:=bi
 refine al tf36 bj fun ab cj bk=>?_
 have aA:SH _ _ _ _ _ [obj ab [V3 none 0 0,V3 none 0 0,V3 none 0 0] 36,_]:=bk
 refine nr (fa ff36_0 u (lv (rv_loadmS (ds:=[V3 A a b,V3 B c d]) tf33 u m1 aA u u) ?_))
 obtain⟨ck,bl,bm⟩:=ob hm
 refine lk co171 (ok_impl_cloneConf F aA.enter0 bf bg bl) ?_
 rintro cl cm ⟨aB,aC,aD,aE,aF,aG,cn,rfl,ag,bn,bo⟩
 have bp:=(aA.c0 ag).t4
 refine b0 tGLive underlying34 tf73 bp fun aH cp aI ac bq br=>(lv (rv_build (cs:=#[V3 aB aC aD,V3 aE aF aG,V3 aH 0 0]) sp36 tf36 u (by kernel_rfl)) (al tf36 br fun T cq bs=>?_))
 have bu:SH _ _ _ _ _ [obj T [V3 none 0 0,V3 none 0 0,V3 none 0 0] 36,_,_,_,_,_]:=bs
 refine lw [V3 aB aC aD,V3 aE aF aG,V3 aH 0 0] tf36 bu fun cr ba=>(nsr (fl ff36_1 u tf34 m5 ba u (lv (rv_len underlying34 u (az.mono (ag.le.trans ac))) (lv (r_m u) (nq ?_)))))
 obtain⟨aJ,bv,bz⟩:=ob bm
 refine wc_cutg (fun E' w'=>∃U V W X Y aa D G H I,E'=[(2,pt ab),(3,pt T)]∧SH w K [] w' I [obj ab [V3 none 0 0,V3 none 0 0,V3 none 0 0] 36,obj T [V3 U V W,V3 X Y aa,V3 D G H] 36,tail (V3 D G H) 73 3]∧KLe aI I∧SliceAt tStr I U V W aJ.Conf.Stops∧SliceAt tGSyn I X Y aa aJ.Conf.Syns∧SliceAt tGLive I D G H aJ.Segs) ?_ ?_
 ·refine wc_block ?_
  obtain⟨ct,bA,bB⟩:=ob bv
  have bC:=ba.f1.f1.f4.sb (sk (sk (sk (sd (sd (sd sz))))))
  refine qF (fun (bb:Nat) (ad:GIndex) E' w'=>∃m o q s x y J O R k,E'=[(2,pt ab),(3,pt T),(12,V3 C f i),(13,V6 (q0.Segs.length:Int)),(14,V6 ((bb:Nat):Int))]∧SH w K [] w' k [obj ab [V3 none 0 0,V3 none 0 0,V3 none 0 0] 36,obj T [V3 m o q,V3 s x y,V3 J O R] 36,tail (V3 J O R) 73 3]∧KLe aI k∧SliceAt tStr k m o q ad.Conf.Stops∧SliceAt tGSyn k s x y ad.Conf.Syns∧SliceAt tGLive k J O R ad.Segs) bA ⟨aB,aC,aD,aE,aF,aG,aH,0,0,aI,u,bC,kr,(bn.mono ac),(bo.mono ac),bq⟩ ?_ ?_
  ·rintro bb ad _ bD cu hi94 bE ⟨m,o,q,s,x,y,J,O,R,k,rfl,ah,ai,aK,aL,aM⟩
   refine sr (lv (rv_lss u u) (ns (wc_cond_t u (decide_eq_true (by omega)) (wc_skip (qe_seq (wc_seq (wc_block (sr ?_))))))))
   obtain⟨cv,bF,bG⟩:=ob bE
   refine li underlying34 tf73 (az.mono ((ag.le.trans ac).trans ai)) bF fun bH bI cw bJ bK=>?_
   obtain⟨aj,ak,am,an,ao,ap,aq,ar,au,rfl,bL,bM,bN⟩:=bJ
   have bO:AtK _ bH bI [V3 aj ak am,V3 an ao ap,V3 aq ar au]:=bK
   refine lv (rv_loadS tf73 u ah bO u) (al tf73 ah fun bc cx bP=>?_)
   have bQ:SH _ _ _ _ _ [obj bc [V3 none 0 0,V3 none 0 0,V3 none 0 0] 73,_,_,_]:=bP
   refine lw [V3 aj ak am,V3 an ao ap,V3 aq ar au] tf73 bQ fun cy bR=>(nq ?_)
   have ae:=bR.drew
   refine wh1 (fun w'=>Holds k w'∧HasObj bc [V3 aj ak am,V3 an ao ap,V3 aq ar au] w') (fun w'=>HasObj T [V3 m o q,V3 s x y,V3 J O R] w') 7 [(1,5),(1,6),(1,7),(5,6),(5,7),(6,7)] mixed ⟨ae.hasK kr,ae.hasObj m0⟩ (fun _=>ae.hasObj (.tail _ (.tail _ (.head _)))) (gt (rv_fieldAddr ff36_1 u) (gf (fun _ h=>rh_loadm1 tf34 u u h) (gh (fun _ h=>rh_loadmS (ds:=[V3 aj ak am,V3 an ao ap,V3 aq ar au]) tf73 u u u h.2) (gn ?_))))
   obtain⟨bS,bT,bU⟩:=ob bG
   refine lk co172 (ok_impl_cloneLive F ae.enter0 bL bM bN bT) ?_
   rintro cz cA ⟨aN,aO,aP,aQ,aR,aS,aT,aU,aV,cB,rfl,l,bV,bW,bX⟩
   have aw:=(ae.c0 l).t5
   refine wl_nil (qh ⟨aw.hasK l.le,aw.hasObj m1⟩ (fun _=>aw.hasObj (.tail _ (.tail _ (.tail _ (.head _))))) (gn (lb tGLive (.agg #[V3 aN aO aP,V3 aQ aR aS,V3 aT aU aV]) [V3 aN aO aP,V3 aQ aR aS,V3 aT aU aV] bS underlying34 tf73 ⟨aN,aO,aP,aQ,aR,aS,aT,aU,aV,u,bV,bW,bX⟩ aw fun cC cD cE S bY ax=>(wl_nil (qh ⟨ax.hasK (l.le.trans S),ax.hasObj m2⟩ (fun _=>ax.hasObj (.tail _ (.tail _ (.tail _ (.tail _ (.head _)))))) (gn ?_))))))
   obtain⟨cF,bZ,ca⟩:=ob bU
   refine lp underlying34 tf73 (aM.mono (l.le.trans S)) bY bZ ax.f5 fun aW aX aY cG cb af cc ay=>(wl_nil (qh ⟨ay.hasK ((l.le.trans S).trans af),ay.hasObj m3⟩ (fun _=>ay.hasObj (.tail _ (.tail _ (.tail _ (.tail _ (.tail _ (.head _))))))) (gt (rv_fieldAddr ff36_1 u) (gn (ls [V3 m o q,V3 s x y,V3 aW aX aY] (V3 aW aX aY) tf34 ay.f5 fun cH aZ=>(wl_nil (qh ⟨aZ.hasK ((l.le.trans S).trans af),aZ.hasObj m4⟩ (fun h=>nomatch h) (gd' (qe_block (qg (lv (rv_add_to u u (w64_succ hi94 (SliceAt.max (az.mono (ag.le.trans ac))))) ?_)))))))))))
   refine mv u (wl_nil ?_)
   cases oi ca
   exact qd ⟨m,o,q,s,x,y,aW,aX,aY,cb,u,aZ.f1.f1.f5.s,(((ai.trans l.le).trans S).trans af),(aK.mono ((l.le.trans S).trans af)),(aL.mono ((l.le.trans S).trans af)),cc⟩
  rintro ad _ bD cd ⟨m,o,q,s,x,y,J,O,R,k,rfl,ah,ai,aK,aL,aM⟩
  subst cd
  refine sr (lv (rv_lss u u) (ns (wc_cond_f u (decide_eq_false (by omega)) (wc_exit (qe_then_exit (qe_then_exit (qe_block_eq ?_)))))))
  cases oi bB
  exact qd ⟨m,o,q,s,x,y,J,O,R,k,u,ah,ai,aK,aL,aM⟩
 rintro _ cI ⟨U,V,W,X,Y,aa,D,G,H,I,rfl,bd,cJ,ce,cf,cg⟩
 refine qr (lv (rv_loadmS (ds:=[V3 U V W,V3 X Y aa,V3 D G H]) tf36 u m1 bd u u) (lw [V3 U V W,V3 X Y aa,V3 D G H] tf36 bd fun cK be=>(nq (wc_ret ?_))))
 cases oi bz
 exact ez results107 tf36 be m0 ⟨U,V,W,X,Y,aa,D,G,H,I,u,be.s,ce,cf,cg⟩

theorem ok_impl_IndexMerge {q0:GIndex}{q1:Int}{r:GIndex×Bool}(hS:SH w K [] w K [])(af:SliceAt tStr K A a b q0.Conf.Stops)(ag:SliceAt tGSyn K B c d q0.Conf.Syns)(cE:SliceAt tGLive K C f i q0.Segs)(eO:rng64 q1)(hm:M.impl_IndexMerge F q0 q1=some r):
  Calls prog 47 #[.agg #[V3 A a b,V3 B c d,V3 C f i],V6 q1] w fun e w'=>∃a_1 n_2 c_3 a_5 n_6 c_7 a_9 n_10 c_11 K',e= .returned (.tuple #[.agg #[V3 a_1 n_2 c_3,V3 a_5 n_6 c_7,V3 a_9 n_10 c_11],.bool r.2])∧SH w K [] w' K' [tail (V3 a_9 n_10 c_11) 73 3]∧SliceAt tStr K' a_1 n_2 c_3 r.1.Conf.Stops∧SliceAt tGSyn K' a_5 n_6 c_7 r.1.Conf.Syns∧SliceAt tGLive K' a_9 n_10 c_11 r.1.Segs:=by
 rw [M.impl_IndexMerge] at hm
 refine ci func47 u ntmps47 (sr (bx u hS fun cF hg eP=>?_))
 have eQ:SH _ _ _ _ _ [obj cF [V3 A a b,V3 B c d,V3 C f i] 36]:=eP
 refine al tf36 eQ fun bC hh eR=>?_
 have cG:SH _ _ _ _ _ [obj bC [V3 none 0 0,V3 none 0 0,V3 none 0 0] 36,_]:=eR
 refine lv (r_f u) (nsr (lv (rv_loadmS (ds:=[V3 A a b,V3 B c d,V3 C f i]) tf36 u m1 cG u u) ?_))
 obtain⟨hi,eS,eT⟩:=ob hm
 refine lk co14 (ok_impl_IndexOk F cG.enter0 af ag cE eS) ?_
 rintro hj hk ⟨eU,rfl,q⟩
 have bU:=(cG.c0 q).t2
 refine lv (rv_not u) (nq (wcc eT u (fun eV cH=>?_) (fun eV cH=>?_)))
 ·refine sr (lv (rv_build (cs:=#[V3 none 0 0,V3 none 0 0,V3 none 0 0]) sp36 tf36 u (by kernel_rfl)) (lw [V3 none 0 0,V3 none 0 0,V3 none 0 0] tf36 bU fun hn eq=>(lv (r_f u) (nq (rr ?_)))))
  cases oi cH
  have eW:=eq.nil 73 3
  exact qe_ret (vs:=[_,_]) results47 ⟨⟨_,_,u,run_loadVar_at tf36 (cs:=[V3 none 0 0,V3 none 0 0,V3 none 0 0]) (fun j c e=>by rw [Nat.zero_add,eq.mem_obj m0];exact e) (.inl ⟨u,u,u⟩)⟩,u,trivial⟩ ⟨none,0,0,none,0,0,none,0,0,eU,u,eW.s,(SliceAt.nil _ _),(SliceAt.nil _ _),(SliceAt.nil _ _)⟩
 refine wc_skip (qr (lv (rv_loadmS (ds:=[V3 A a b,V3 B c d,V3 C f i]) tf36 u m1 bU u u) ?_))
 obtain⟨ho,eY,eZ⟩:=ob cH
 refine lk co107 (ok_impl_cloneIndex F bU.enter0 (af.mono q.le) (ag.mono q.le) (cE.mono q.le) eY) ?_
 rintro hp hq ⟨I,J,O,R,S,T,ah,ai,aj,hr,rfl,x,es,et,bV⟩
 have fb:=(bU.c0 x).t3
 refine al tf36 fb fun ao ht fc=>?_
 have fd:SH _ _ _ _ _ [obj ao [V3 none 0 0,V3 none 0 0,V3 none 0 0] 36,_,_,_]:=fc
 refine lw [V3 I J O,V3 R S T,V3 ah ai aj] tf36 fd fun hu cI=>(nsr (mv u (fl ff36_1 u tf34 m3 cI u (lv (rv_len underlying34 u (cE.mono (q.le.trans x.le))) (lv (rv_sub u u) ?_)))))
 obtain⟨hv,fe,fg⟩:=ob eZ
 refine lk co108 (ok_impl_within F cI.enter0 eO d_0 (w64_rng _) fe) ?_
 rintro hw hx ⟨cJ,rfl,m⟩
 have cK:=(cI.c0 m).t4
 refine lv (rv_not u) (nq (wcc fg u (fun fh cL=>?_) (fun fh cL=>?_)))
 ·refine sr (lv (rv_loadmS (ds:=[V3 I J O,V3 R S T,V3 ah ai aj]) tf36 u m0 cK u u) (lw [V3 I J O,V3 R S T,V3 ah ai aj] tf36 cK.f2 fun hy eu=>(lv (r_f u) (nq (rr ?_)))))
  cases oi cL
  exact qe_ret (vs:=[_,_]) results47 ⟨⟨_,_,u,run_loadVar_at tf36 (cs:=[V3 I J O,V3 R S T,V3 ah ai aj]) (fun j c e=>by rw [Nat.zero_add,eu.mem_obj m0];exact e) (.inl ⟨u,u,u⟩)⟩,u,trivial⟩ ⟨I,J,O,R,S,T,ah,ai,aj,cJ,u,eu.s,(es.mono m.le),(et.mono m.le),(bV.mono m.le)⟩
 refine wc_skip (qs ?_)
 obtain⟨aW,fi,fj⟩:=ob cL
 refine wc_cutg (fun E' w'=>∃bD V W X Y aa ab ac ad ae aw,E'=[(1,V6 q1),(4,pt bC),(6,pt ao),(7,pt bD)]∧SH w K [] w' aw [obj bD [V3 V W X,V3 Y aa ab,V3 ac ad ae] 73,obj bC [V3 none 0 0,V3 none 0 0,V3 none 0 0] 36,obj ao [V3 I J O,V3 R S T,V3 ah ai aj] 36,tail (V3 ah ai aj) 73 3]∧KLe cJ aw∧SliceAt tGDoc aw V W X aW.Seg.Docs∧SliceAt tGEntry aw Y aa ab aW.Seg.Entries∧SliceAt tInt aw ac ad ae aW.Dead) ?_ ?_
 ·obtain⟨hz,fk,fm⟩:=ob fi
  obtain⟨hA,bE,fn⟩:=ob fm
  obtain⟨rS,hxS,hhS⟩:=ob fn
  obtain⟨hB,an,ak⟩:=ob hhS
  refine wc_held (fun w'=>Holds cJ w'∧HasObj cF [V3 A a b,V3 B c d,V3 C f i] w'∧HasObj ao [V3 I J O,V3 R S T,V3 ah ai aj] w') (fun w'=>True) 14 [] mixed ?_
  have o:=cK.drew
  refine wg_val (i:=0) (listed':=L_ 14 0) (fun _=>True) u (by kernel_rfl) (pk_then (pk_then pk_body)) (by kernel_rfl) u (by kernel_rfl) (by kernel_rfl) u (.inl fun _ _=>trivial) ⟨⟨o.hasK kr,o.hasObj m3,o.hasObj m0⟩,(fun _=>trivial),by decide⟩ wn u (fun _ _=>(rv_fieldAddr ff36_0 u)) (wg_val (i:=1) (listed':=L_ 14 1) (HasObj cF [V3 A a b,V3 B c d,V3 C f i]) u (by kernel_rfl) (pk_then (pk_then pk_body)) (by kernel_rfl) u (by kernel_rfl) (by kernel_rfl) u (.inl fun _ h=>h.2.1) ⟨⟨o.hasK kr,o.hasObj m3,o.hasObj m0⟩,(fun _=>trivial),by decide⟩ wn u (fun _ h=>rh_loadmS (ds:=[V3 A a b,V3 B c d]) tf33 u u u h) (wg_val (i:=2) (listed':=L_ 14 2) (fun _=>True) u (by kernel_rfl) (pk_then (pk_then pk_body)) (by kernel_rfl) u (by kernel_rfl) (by kernel_rfl) u (.inl fun _ _=>trivial) ⟨⟨o.hasK kr,o.hasObj m3,o.hasObj m0⟩,(fun _=>trivial),by decide⟩ wn u (fun _ _=>(rv_fieldAddr ff36_1 u)) ?_))
  refine wg_val (i:=3) (listed':=L_ 14 3) (HasObj ao [V3 I J O,V3 R S T,V3 ah ai aj]) u (by kernel_rfl) (pk_then (pk_then pk_body)) (by kernel_rfl) u (by kernel_rfl) (by kernel_rfl) u (.inl fun _ h=>h.2.2) ⟨⟨o.hasK kr,o.hasObj m3,o.hasObj m0⟩,(fun _=>trivial),by decide⟩ wn u (fun _ h=>rh_loadm1 tf34 u u h) (wg_val (i:=4) (listed':=L_ 14 4) (fun _=>True) u (by kernel_rfl) (pk_then (pk_then pk_body)) (by kernel_rfl) u (by kernel_rfl) (by kernel_rfl) u (.inl fun _ _=>trivial) ⟨⟨o.hasK kr,o.hasObj m3,o.hasObj m0⟩,(fun _=>trivial),by decide⟩ wn u (fun _ _=>(rv_move u)) (wg_val (i:=5) (listed':=L_ 14 5) (fun _=>True) u (by kernel_rfl) (pk_then (pk_then pk_body)) (by kernel_rfl) u (by kernel_rfl) (by kernel_rfl) u (.inl fun _ _=>trivial) ⟨⟨o.hasK kr,o.hasObj m3,o.hasObj m0⟩,(fun _=>trivial),by decide⟩ wn u (fun _ _=>(rv_move u)) ?_))
  refine wg_val (i:=6) (listed':=L_ 14 6) (fun _=>True) u (by kernel_rfl) (pk_then (pk_then pk_body)) (by kernel_rfl) u (by kernel_rfl) (by kernel_rfl) u (.inl fun _ _=>trivial) ⟨⟨o.hasK kr,o.hasObj m3,o.hasObj m0⟩,(fun _=>trivial),by decide⟩ wn u (fun _ _=>(rv_add u u)) (wg_sl_lh (t:=tGLive) (j:=7) (listed':=L_ 14 7) u (by kernel_rfl) (pk_then (pk_then pk_body)) (by kernel_rfl) u (by kernel_rfl) (by kernel_rfl) u ⟨⟨o.hasK kr,o.hasObj m3,o.hasObj m0⟩,(fun _=>trivial),by decide⟩ wn u underlying34 tf73 u u u (bV.mono m.le) fk fun hC hD hE bF=>(wg_many (l:=[8,10,12]) (by kernel_rfl) u ⟨⟨_,u,?_⟩,⟨_,u,?_⟩,⟨_,u,?_⟩,trivial⟩))
  ·refine lk co61 (ok_impl_allAlive F o.enter0 bF bE) ?_
   rintro hF hG ⟨hH,hI,hJ,hK,ysX,rfl,k,bG,hpX,hwX⟩
   have eX:=sortT_any hxS hpX hwX
   subst eX
   have aA:=(o.c0 k).t5
   refine wl_nil (qe_held (listed':=L_ 14 8) u ⟨⟨aA.hasK k.le,aA.hasObj m4,aA.hasObj m1⟩,(fun _=>trivial),by decide⟩ (wg_many (l:=[9,10,12]) (by kernel_rfl) u ⟨⟨_,u,?_⟩,⟨_,u,?_⟩,⟨_,u,?_⟩,trivial⟩))
   ·refine lk co21 (ok_impl_SegOf F aA.enter0 (SliceAt.mono (((q.le.trans x.le).trans m.le).trans k.le) af) (SliceAt.mono (((q.le.trans x.le).trans m.le).trans k.le) ag) bG an) ?_
    rintro hL hM ⟨aX,aY,aZ,ba,bb,bc,hN,rfl,am,ev,ew⟩
    have bH:=(aA.c0 am).t6
    refine wl_nil (qe_held (listed':=L_ 14 9) u ⟨⟨bH.hasK (k.le.trans am.le),bH.hasObj m5,bH.hasObj m2⟩,(fun _=>trivial),by decide⟩ (wg_many (l:=[10,12]) (by kernel_rfl) u ⟨⟨_,u,?_⟩,⟨_,u,?_⟩,trivial⟩))
    ·refine b0 tInt underlying71 tf3 bH fun cM hO fo aB fp aC=>(wl_nil (qe_held (listed':=L_ 14 10) u ⟨⟨aC.hasK ((k.le.trans am.le).trans aB),aC.hasObj m6,aC.hasObj m3⟩,(fun _=>trivial),by decide⟩ (wg_val (i:=11) (listed':=L_ 14 11) (fun _=>True) u (by kernel_rfl) (pk_then (pk_then pk_body)) (by kernel_rfl) u (by kernel_rfl) (by kernel_rfl) u (.inl fun _ _=>trivial) ⟨⟨aC.hasK ((k.le.trans am.le).trans aB),aC.hasObj m6,aC.hasObj m3⟩,(fun _=>trivial),by decide⟩ wn u (fun _ _=>(rv_build (cs:=#[V3 aX aY aZ,V3 ba bb bc,V3 cM 0 0]) sp73 tf73 u (by kernel_rfl))) (wg_one (i:=12) (by kernel_rfl) u (al tf73 aC fun ex hP fq=>?_)))))
     have bW:SH _ _ _ _ _ [obj ex [V3 none 0 0,V3 none 0 0,V3 none 0 0] 73,_,_,_,_,_,_,_]:=fq
     refine wl_nil (qe_held (listed':=L_ 14 12) u ⟨⟨bW.hasK ((k.le.trans am.le).trans aB),bW.hasObj m7,bW.hasObj m4⟩,(fun _=>trivial),by decide⟩ (wg_one (i:=13) (by kernel_rfl) u (lw [V3 aX aY aZ,V3 ba bb bc,V3 cM 0 0] tf73 bW fun hQ bX=>(wl_nil (qe_held (listed':=L_ 14 13) u ⟨⟨bX.hasK ((k.le.trans am.le).trans aB),bX.hasObj m7,bX.hasObj m4⟩,(fun _=>trivial),by decide⟩ (wg_done (by kernel_rfl) ?_))))))
     cases oi ak
     exact qd ⟨ex,aX,aY,aZ,ba,bb,bc,cM,0,0,fo,u,bX.f5.f5.f6.f3.s,((k.le.trans am.le).trans aB),(ev.mono aB),(ew.mono aB),fp⟩
    refine al tf73 bH fun eA hR fr=>?_
    have bY:SH _ _ _ _ _ [obj eA [V3 none 0 0,V3 none 0 0,V3 none 0 0] 73,_,_,_,_,_,_]:=fr
    refine wl_nil (qe_held (listed':=#[true,true,true,true,true,true,true,true,true,true,false,false,true,false]) u ⟨⟨bY.hasK (k.le.trans am.le),bY.hasObj m6,bY.hasObj m3⟩,(fun _=>trivial),by decide⟩ (wg_one (i:=10) (by kernel_rfl) u (b0 tInt underlying71 tf3 bY fun cN hT fs bd ft aD=>(wl_nil (qe_held (listed':=#[true,true,true,true,true,true,true,true,true,true,true,false,true,false]) u ⟨⟨aD.hasK ((k.le.trans am.le).trans bd),aD.hasObj m7,aD.hasObj m4⟩,(fun _=>trivial),by decide⟩ (wg_val (i:=11) (listed':=L_ 14 12) (fun _=>True) u (by kernel_rfl) (pk_then (pk_then pk_body)) (by kernel_rfl) u (by kernel_rfl) (by kernel_rfl) u (.inl fun _ _=>trivial) ⟨⟨aD.hasK ((k.le.trans am.le).trans bd),aD.hasObj m7,aD.hasObj m4⟩,(fun _=>trivial),by decide⟩ wn u (fun _ _=>(rv_build (cs:=#[V3 aX aY aZ,V3 ba bb bc,V3 cN 0 0]) sp73 tf73 u (by kernel_rfl))) (wg_one (i:=13) (by kernel_rfl) u (lw [V3 aX aY aZ,V3 ba bb bc,V3 cN 0 0] tf73 aD.f1 fun hU bZ=>?_))))))))
    refine wl_nil (qe_held (listed':=L_ 14 13) u ⟨⟨bZ.hasK ((k.le.trans am.le).trans bd),bZ.hasObj m7,bZ.hasObj m4⟩,(fun _=>trivial),by decide⟩ (wg_done (by kernel_rfl) ?_))
    cases oi ak
    exact qd ⟨eA,aX,aY,aZ,ba,bb,bc,cN,0,0,fs,u,bZ.f5.f5.f6.f3.s,((k.le.trans am.le).trans bd),(ev.mono bd),(ew.mono bd),ft⟩
   ·refine b0 tInt underlying71 tf3 aA fun be hV hW G eB bf=>(wl_nil (qe_held (listed':=#[true,true,true,true,true,true,true,true,true,false,true,false,false,false]) u ⟨⟨bf.hasK (k.le.trans G),bf.hasObj m5,bf.hasObj m2⟩,(fun _=>trivial),by decide⟩ (wg_many (l:=[9,12]) (by kernel_rfl) u ⟨⟨_,u,?_⟩,⟨_,u,?_⟩,trivial⟩)))
    ·refine lk co21 (ok_impl_SegOf F bf.enter0 (SliceAt.mono ((((q.le.trans x.le).trans m.le).trans k.le).trans G) af) (SliceAt.mono ((((q.le.trans x.le).trans m.le).trans k.le).trans G) ag) (bG.mono G) an) ?_
     rintro hX hY ⟨cO,cP,cQ,cR,cS,cT,fu,rfl,aE,fv,fw⟩
     have aF:=(bf.c0 aE).t7
     refine wl_nil (qe_held (listed':=L_ 14 10) u ⟨⟨aF.hasK ((k.le.trans G).trans aE.le),aF.hasObj m6,aF.hasObj m3⟩,(fun _=>trivial),by decide⟩ (wg_val (i:=11) (listed':=L_ 14 11) (fun _=>True) u (by kernel_rfl) (pk_then (pk_then pk_body)) (by kernel_rfl) u (by kernel_rfl) (by kernel_rfl) u (.inl fun _ _=>trivial) ⟨⟨aF.hasK ((k.le.trans G).trans aE.le),aF.hasObj m6,aF.hasObj m3⟩,(fun _=>trivial),by decide⟩ wn u (fun _ _=>(rv_build (cs:=#[V3 cO cP cQ,V3 cR cS cT,V3 be 0 0]) sp73 tf73 u (by kernel_rfl))) (wg_one (i:=12) (by kernel_rfl) u (al tf73 aF fun eC hZ fx=>?_))))
     have ca:SH _ _ _ _ _ [obj eC [V3 none 0 0,V3 none 0 0,V3 none 0 0] 73,_,_,_,_,_,_,_]:=fx
     refine wl_nil (qe_held (listed':=L_ 14 12) u ⟨⟨ca.hasK ((k.le.trans G).trans aE.le),ca.hasObj m7,ca.hasObj m4⟩,(fun _=>trivial),by decide⟩ (wg_one (i:=13) (by kernel_rfl) u (lw [V3 cO cP cQ,V3 cR cS cT,V3 be 0 0] tf73 ca fun ia cb=>(wl_nil (qe_held (listed':=L_ 14 13) u ⟨⟨cb.hasK ((k.le.trans G).trans aE.le),cb.hasObj m7,cb.hasObj m4⟩,(fun _=>trivial),by decide⟩ (wg_done (by kernel_rfl) ?_))))))
     cases oi ak
     exact qd ⟨eC,cO,cP,cQ,cR,cS,cT,be,0,0,fu,u,cb.f5.f5.f6.f3.s,((k.le.trans G).trans aE.le),fv,fw,(eB.mono aE.le)⟩
    refine al tf73 bf fun eD ib fy=>?_
    have bI:SH _ _ _ _ _ [obj eD [V3 none 0 0,V3 none 0 0,V3 none 0 0] 73,_,_,_,_,_,_]:=fy
    refine wl_nil (qe_held (listed':=#[true,true,true,true,true,true,true,true,true,false,true,false,true,false]) u ⟨⟨bI.hasK (k.le.trans G),bI.hasObj m6,bI.hasObj m3⟩,(fun _=>trivial),by decide⟩ (wg_one (i:=9) (by kernel_rfl) u (lk co21 (ok_impl_SegOf F bI.enter0 (SliceAt.mono ((((q.le.trans x.le).trans m.le).trans k.le).trans G) af) (SliceAt.mono ((((q.le.trans x.le).trans m.le).trans k.le).trans G) ag) (bG.mono G) an) ?_)))
    rintro ic ie ⟨cU,cV,cW,cX,cY,cZ,fz,rfl,bg,fA,fB⟩
    have aG:=(bI.c0 bg).t8
    refine wl_nil (qe_held (listed':=#[true,true,true,true,true,true,true,true,true,true,true,false,true,false]) u ⟨⟨aG.hasK ((k.le.trans G).trans bg.le),aG.hasObj m7,aG.hasObj m4⟩,(fun _=>trivial),by decide⟩ (wg_val (i:=11) (listed':=L_ 14 12) (fun _=>True) u (by kernel_rfl) (pk_then (pk_then pk_body)) (by kernel_rfl) u (by kernel_rfl) (by kernel_rfl) u (.inl fun _ _=>trivial) ⟨⟨aG.hasK ((k.le.trans G).trans bg.le),aG.hasObj m7,aG.hasObj m4⟩,(fun _=>trivial),by decide⟩ wn u (fun _ _=>(rv_build (cs:=#[V3 cU cV cW,V3 cX cY cZ,V3 be 0 0]) sp73 tf73 u (by kernel_rfl))) (wg_one (i:=13) (by kernel_rfl) u (lw [V3 cU cV cW,V3 cX cY cZ,V3 be 0 0] tf73 aG.f1 fun ig cc=>(wl_nil (qe_held (listed':=L_ 14 13) u ⟨⟨cc.hasK ((k.le.trans G).trans bg.le),cc.hasObj m7,cc.hasObj m4⟩,(fun _=>trivial),by decide⟩ (wg_done (by kernel_rfl) ?_)))))))
    cases oi ak
    exact qd ⟨eD,cU,cV,cW,cX,cY,cZ,be,0,0,fz,u,cc.f5.f5.f6.f3.s,((k.le.trans G).trans bg.le),fA,fB,(eB.mono bg.le)⟩
   refine al tf73 aA fun da ih fC=>?_
   have bh:SH _ _ _ _ _ [obj da [V3 none 0 0,V3 none 0 0,V3 none 0 0] 73,_,_,_,_,_]:=fC
   refine wl_nil (qe_held (listed':=#[true,true,true,true,true,true,true,true,true,false,false,false,true,false]) u ⟨⟨bh.hasK k.le,bh.hasObj m5,bh.hasObj m2⟩,(fun _=>trivial),by decide⟩ (wg_many (l:=[9,10]) (by kernel_rfl) u ⟨⟨_,u,?_⟩,⟨_,u,?_⟩,trivial⟩))
   ·refine lk co21 (ok_impl_SegOf F bh.enter0 (SliceAt.mono (((q.le.trans x.le).trans m.le).trans k.le) af) (SliceAt.mono (((q.le.trans x.le).trans m.le).trans k.le) ag) bG an) ?_
    rintro ii ij ⟨db,dc,dd,de,df,dg,ik,rfl,bi,fD,fE⟩
    have cd:=(bh.c0 bi).t7
    refine wl_nil (qe_held (listed':=#[true,true,true,true,true,true,true,true,true,true,false,false,true,false]) u ⟨⟨cd.hasK (k.le.trans bi.le),cd.hasObj m6,cd.hasObj m3⟩,(fun _=>trivial),by decide⟩ (wg_one (i:=10) (by kernel_rfl) u (b0 tInt underlying71 tf3 cd fun dh il fF bj fG aH=>(wl_nil (qe_held (listed':=#[true,true,true,true,true,true,true,true,true,true,true,false,true,false]) u ⟨⟨aH.hasK ((k.le.trans bi.le).trans bj),aH.hasObj m7,aH.hasObj m4⟩,(fun _=>trivial),by decide⟩ (wg_val (i:=11) (listed':=L_ 14 12) (fun _=>True) u (by kernel_rfl) (pk_then (pk_then pk_body)) (by kernel_rfl) u (by kernel_rfl) (by kernel_rfl) u (.inl fun _ _=>trivial) ⟨⟨aH.hasK ((k.le.trans bi.le).trans bj),aH.hasObj m7,aH.hasObj m4⟩,(fun _=>trivial),by decide⟩ wn u (fun _ _=>(rv_build (cs:=#[V3 db dc dd,V3 de df dg,V3 dh 0 0]) sp73 tf73 u (by kernel_rfl))) (wg_one (i:=13) (by kernel_rfl) u (lw [V3 db dc dd,V3 de df dg,V3 dh 0 0] tf73 aH.f2 fun im ce=>?_))))))))
    refine wl_nil (qe_held (listed':=L_ 14 13) u ⟨⟨ce.hasK ((k.le.trans bi.le).trans bj),ce.hasObj m7,ce.hasObj m4⟩,(fun _=>trivial),by decide⟩ (wg_done (by kernel_rfl) ?_))
    cases oi ak
    exact qd ⟨da,db,dc,dd,de,df,dg,dh,0,0,fF,u,ce.f5.f5.f6.f3.s,((k.le.trans bi.le).trans bj),(fD.mono bj),(fE.mono bj),fG⟩
   refine b0 tInt underlying71 tf3 bh fun di io ip ax fH bJ=>(wl_nil (qe_held (listed':=#[true,true,true,true,true,true,true,true,true,false,true,false,true,false]) u ⟨⟨bJ.hasK (k.le.trans ax),bJ.hasObj m6,bJ.hasObj m3⟩,(fun _=>trivial),by decide⟩ (wg_one (i:=9) (by kernel_rfl) u (lk co21 (ok_impl_SegOf F bJ.enter0 (SliceAt.mono ((((q.le.trans x.le).trans m.le).trans k.le).trans ax) af) (SliceAt.mono ((((q.le.trans x.le).trans m.le).trans k.le).trans ax) ag) (bG.mono ax) an) ?_))))
   rintro iq ir ⟨dj,dk,dl,dm,dn,dp,fI,rfl,bk,fJ,fK⟩
   have aI:=(bJ.c0 bk).t8
   refine wl_nil (qe_held (listed':=#[true,true,true,true,true,true,true,true,true,true,true,false,true,false]) u ⟨⟨aI.hasK ((k.le.trans ax).trans bk.le),aI.hasObj m7,aI.hasObj m4⟩,(fun _=>trivial),by decide⟩ (wg_val (i:=11) (listed':=L_ 14 12) (fun _=>True) u (by kernel_rfl) (pk_then (pk_then pk_body)) (by kernel_rfl) u (by kernel_rfl) (by kernel_rfl) u (.inl fun _ _=>trivial) ⟨⟨aI.hasK ((k.le.trans ax).trans bk.le),aI.hasObj m7,aI.hasObj m4⟩,(fun _=>trivial),by decide⟩ wn u (fun _ _=>(rv_build (cs:=#[V3 dj dk dl,V3 dm dn dp,V3 di 0 0]) sp73 tf73 u (by kernel_rfl))) (wg_one (i:=13) (by kernel_rfl) u (lw [V3 dj dk dl,V3 dm dn dp,V3 di 0 0] tf73 aI.f2 fun it cf=>(wl_nil (qe_held (listed':=L_ 14 13) u ⟨⟨cf.hasK ((k.le.trans ax).trans bk.le),cf.hasObj m7,cf.hasObj m4⟩,(fun _=>trivial),by decide⟩ (wg_done (by kernel_rfl) ?_)))))))
   cases oi ak
   exact qd ⟨da,dj,dk,dl,dm,dn,dp,di,0,0,fI,u,cf.f5.f5.f6.f3.s,((k.le.trans ax).trans bk.le),fJ,fK,(fH.mono bk.le)⟩
  ·refine b0 tInt underlying71 tf3 o fun ap iu iv s dq bl=>(wl_nil (qe_held (listed':=#[true,true,true,true,true,true,true,true,false,false,true,false,false,false]) u ⟨⟨bl.hasK s,bl.hasObj m4,bl.hasObj m1⟩,(fun _=>trivial),by decide⟩ (wg_many (l:=[8,12]) (by kernel_rfl) u ⟨⟨_,u,?_⟩,⟨_,u,?_⟩,trivial⟩)))
   ·refine lk co61 (ok_impl_allAlive F bl.enter0 (bF.mono s) bE) ?_
    rintro iw ix ⟨iy,iz,iA,iB,ysX,rfl,D,eE,hpX,hwX⟩
    have eX:=sortT_any hxS hpX hwX
    subst eX
    have bm:=(bl.c0 D).t6
    refine wl_nil (qe_held (listed':=#[true,true,true,true,true,true,true,true,true,false,true,false,false,false]) u ⟨⟨bm.hasK (s.trans D.le),bm.hasObj m5,bm.hasObj m2⟩,(fun _=>trivial),by decide⟩ (wg_many (l:=[9,12]) (by kernel_rfl) u ⟨⟨_,u,?_⟩,⟨_,u,?_⟩,trivial⟩))
    ·refine lk co21 (ok_impl_SegOf F bm.enter0 (SliceAt.mono ((((q.le.trans x.le).trans m.le).trans s).trans D.le) af) (SliceAt.mono ((((q.le.trans x.le).trans m.le).trans s).trans D.le) ag) eE an) ?_
     rintro iC iD ⟨dr,dt,du,dv,dw,dx,fL,rfl,aJ,fM,fN⟩
     have aK:=(bm.c0 aJ).t7
     refine wl_nil (qe_held (listed':=L_ 14 10) u ⟨⟨aK.hasK ((s.trans D.le).trans aJ.le),aK.hasObj m6,aK.hasObj m3⟩,(fun _=>trivial),by decide⟩ (wg_val (i:=11) (listed':=L_ 14 11) (fun _=>True) u (by kernel_rfl) (pk_then (pk_then pk_body)) (by kernel_rfl) u (by kernel_rfl) (by kernel_rfl) u (.inl fun _ _=>trivial) ⟨⟨aK.hasK ((s.trans D.le).trans aJ.le),aK.hasObj m6,aK.hasObj m3⟩,(fun _=>trivial),by decide⟩ wn u (fun _ _=>(rv_build (cs:=#[V3 dr dt du,V3 dv dw dx,V3 ap 0 0]) sp73 tf73 u (by kernel_rfl))) (wg_one (i:=12) (by kernel_rfl) u (al tf73 aK fun eF iE fO=>?_))))
     have cg:SH _ _ _ _ _ [obj eF [V3 none 0 0,V3 none 0 0,V3 none 0 0] 73,_,_,_,_,_,_,_]:=fO
     refine wl_nil (qe_held (listed':=L_ 14 12) u ⟨⟨cg.hasK ((s.trans D.le).trans aJ.le),cg.hasObj m7,cg.hasObj m4⟩,(fun _=>trivial),by decide⟩ (wg_one (i:=13) (by kernel_rfl) u (lw [V3 dr dt du,V3 dv dw dx,V3 ap 0 0] tf73 cg fun iF ch=>(wl_nil (qe_held (listed':=L_ 14 13) u ⟨⟨ch.hasK ((s.trans D.le).trans aJ.le),ch.hasObj m7,ch.hasObj m4⟩,(fun _=>trivial),by decide⟩ (wg_done (by kernel_rfl) ?_))))))
     cases oi ak
     exact qd ⟨eF,dr,dt,du,dv,dw,dx,ap,0,0,fL,u,ch.f5.f5.f6.f3.s,((s.trans D.le).trans aJ.le),fM,fN,(dq.mono (D.le.trans aJ.le))⟩
    refine al tf73 bm fun eG iG fP=>?_
    have bK:SH _ _ _ _ _ [obj eG [V3 none 0 0,V3 none 0 0,V3 none 0 0] 73,_,_,_,_,_,_]:=fP
    refine wl_nil (qe_held (listed':=#[true,true,true,true,true,true,true,true,true,false,true,false,true,false]) u ⟨⟨bK.hasK (s.trans D.le),bK.hasObj m6,bK.hasObj m3⟩,(fun _=>trivial),by decide⟩ (wg_one (i:=9) (by kernel_rfl) u (lk co21 (ok_impl_SegOf F bK.enter0 (SliceAt.mono ((((q.le.trans x.le).trans m.le).trans s).trans D.le) af) (SliceAt.mono ((((q.le.trans x.le).trans m.le).trans s).trans D.le) ag) eE an) ?_)))
    rintro iH iI ⟨dy,dz,dA,dB,dC,dD,fQ,rfl,bn,fR,fS⟩
    have aL:=(bK.c0 bn).t8
    refine wl_nil (qe_held (listed':=#[true,true,true,true,true,true,true,true,true,true,true,false,true,false]) u ⟨⟨aL.hasK ((s.trans D.le).trans bn.le),aL.hasObj m7,aL.hasObj m4⟩,(fun _=>trivial),by decide⟩ (wg_val (i:=11) (listed':=L_ 14 12) (fun _=>True) u (by kernel_rfl) (pk_then (pk_then pk_body)) (by kernel_rfl) u (by kernel_rfl) (by kernel_rfl) u (.inl fun _ _=>trivial) ⟨⟨aL.hasK ((s.trans D.le).trans bn.le),aL.hasObj m7,aL.hasObj m4⟩,(fun _=>trivial),by decide⟩ wn u (fun _ _=>(rv_build (cs:=#[V3 dy dz dA,V3 dB dC dD,V3 ap 0 0]) sp73 tf73 u (by kernel_rfl))) (wg_one (i:=13) (by kernel_rfl) u (lw [V3 dy dz dA,V3 dB dC dD,V3 ap 0 0] tf73 aL.f1 fun iJ cj=>(wl_nil (qe_held (listed':=L_ 14 13) u ⟨⟨cj.hasK ((s.trans D.le).trans bn.le),cj.hasObj m7,cj.hasObj m4⟩,(fun _=>trivial),by decide⟩ (wg_done (by kernel_rfl) ?_)))))))
    cases oi ak
    exact qd ⟨eG,dy,dz,dA,dB,dC,dD,ap,0,0,fQ,u,cj.f5.f5.f6.f3.s,((s.trans D.le).trans bn.le),fR,fS,(dq.mono (D.le.trans bn.le))⟩
   refine al tf73 bl fun eH iK fT=>?_
   have bL:SH _ _ _ _ _ [obj eH [V3 none 0 0,V3 none 0 0,V3 none 0 0] 73,_,_,_,_,_]:=fT
   refine wl_nil (qe_held (listed':=#[true,true,true,true,true,true,true,true,false,false,true,false,true,false]) u ⟨⟨bL.hasK s,bL.hasObj m5,bL.hasObj m2⟩,(fun _=>trivial),by decide⟩ (wg_one (i:=8) (by kernel_rfl) u (lk co61 (ok_impl_allAlive F bL.enter0 (bF.mono s) bE) ?_)))
   rintro iL iM ⟨iN,iO,iP,iQ,ysX,rfl,aq,fU,hpX,hwX⟩
   have eX:=sortT_any hxS hpX hwX
   subst eX
   have bM:=(bL.c0 aq).t7
   refine wl_nil (qe_held (listed':=#[true,true,true,true,true,true,true,true,true,false,true,false,true,false]) u ⟨⟨bM.hasK (s.trans aq.le),bM.hasObj m6,bM.hasObj m3⟩,(fun _=>trivial),by decide⟩ (wg_one (i:=9) (by kernel_rfl) u (lk co21 (ok_impl_SegOf F bM.enter0 (SliceAt.mono ((((q.le.trans x.le).trans m.le).trans s).trans aq.le) af) (SliceAt.mono ((((q.le.trans x.le).trans m.le).trans s).trans aq.le) ag) fU an) ?_)))
   rintro iR iS ⟨dE,dF,dG,dH,dI,dJ,fV,rfl,bo,fW,fX⟩
   have aM:=(bM.c0 bo).t8
   refine wl_nil (qe_held (listed':=#[true,true,true,true,true,true,true,true,true,true,true,false,true,false]) u ⟨⟨aM.hasK ((s.trans aq.le).trans bo.le),aM.hasObj m7,aM.hasObj m4⟩,(fun _=>trivial),by decide⟩ (wg_val (i:=11) (listed':=L_ 14 12) (fun _=>True) u (by kernel_rfl) (pk_then (pk_then pk_body)) (by kernel_rfl) u (by kernel_rfl) (by kernel_rfl) u (.inl fun _ _=>trivial) ⟨⟨aM.hasK ((s.trans aq.le).trans bo.le),aM.hasObj m7,aM.hasObj m4⟩,(fun _=>trivial),by decide⟩ wn u (fun _ _=>(rv_build (cs:=#[V3 dE dF dG,V3 dH dI dJ,V3 ap 0 0]) sp73 tf73 u (by kernel_rfl))) (wg_one (i:=13) (by kernel_rfl) u (lw [V3 dE dF dG,V3 dH dI dJ,V3 ap 0 0] tf73 aM.f2 fun iT ck=>(wl_nil (qe_held (listed':=L_ 14 13) u ⟨⟨ck.hasK ((s.trans aq.le).trans bo.le),ck.hasObj m7,ck.hasObj m4⟩,(fun _=>trivial),by decide⟩ (wg_done (by kernel_rfl) ?_)))))))
   cases oi ak
   exact qd ⟨eH,dE,dF,dG,dH,dI,dJ,ap,0,0,fV,u,ck.f5.f5.f6.f3.s,((s.trans aq.le).trans bo.le),fW,fX,(dq.mono (aq.le.trans bo.le))⟩
  refine al tf73 o fun cl iU fY=>?_
  have bp:SH _ _ _ _ _ [obj cl [V3 none 0 0,V3 none 0 0,V3 none 0 0] 73,_,_,_,_]:=fY
  refine wl_nil (qe_held (listed':=#[true,true,true,true,true,true,true,true,false,false,false,false,true,false]) u ⟨⟨bp.hasK kr,bp.hasObj m4,bp.hasObj m1⟩,(fun _=>trivial),by decide⟩ (wg_many (l:=[8,10]) (by kernel_rfl) u ⟨⟨_,u,?_⟩,⟨_,u,?_⟩,trivial⟩))
  ·refine lk co61 (ok_impl_allAlive F bp.enter0 bF bE) ?_
   rintro iV iW ⟨iX,iY,iZ,ja,ysX,rfl,U,eI,hpX,hwX⟩
   have eX:=sortT_any hxS hpX hwX
   subst eX
   have bq:=(bp.c0 U).t6
   refine wl_nil (qe_held (listed':=#[true,true,true,true,true,true,true,true,true,false,false,false,true,false]) u ⟨⟨bq.hasK U.le,bq.hasObj m5,bq.hasObj m2⟩,(fun _=>trivial),by decide⟩ (wg_many (l:=[9,10]) (by kernel_rfl) u ⟨⟨_,u,?_⟩,⟨_,u,?_⟩,trivial⟩))
   ·refine lk co21 (ok_impl_SegOf F bq.enter0 (SliceAt.mono (((q.le.trans x.le).trans m.le).trans U.le) af) (SliceAt.mono (((q.le.trans x.le).trans m.le).trans U.le) ag) eI an) ?_
    rintro jb jc ⟨dK,dL,dM,dN,dO,dP,je,rfl,br,fZ,ga⟩
    have cm:=(bq.c0 br).t7
    refine wl_nil (qe_held (listed':=#[true,true,true,true,true,true,true,true,true,true,false,false,true,false]) u ⟨⟨cm.hasK (U.le.trans br.le),cm.hasObj m6,cm.hasObj m3⟩,(fun _=>trivial),by decide⟩ (wg_one (i:=10) (by kernel_rfl) u (b0 tInt underlying71 tf3 cm fun dQ jj gb bs gc aN=>(wl_nil (qe_held (listed':=#[true,true,true,true,true,true,true,true,true,true,true,false,true,false]) u ⟨⟨aN.hasK ((U.le.trans br.le).trans bs),aN.hasObj m7,aN.hasObj m4⟩,(fun _=>trivial),by decide⟩ (wg_val (i:=11) (listed':=L_ 14 12) (fun _=>True) u (by kernel_rfl) (pk_then (pk_then pk_body)) (by kernel_rfl) u (by kernel_rfl) (by kernel_rfl) u (.inl fun _ _=>trivial) ⟨⟨aN.hasK ((U.le.trans br.le).trans bs),aN.hasObj m7,aN.hasObj m4⟩,(fun _=>trivial),by decide⟩ wn u (fun _ _=>(rv_build (cs:=#[V3 dK dL dM,V3 dN dO dP,V3 dQ 0 0]) sp73 tf73 u (by kernel_rfl))) (wg_one (i:=13) (by kernel_rfl) u (lw [V3 dK dL dM,V3 dN dO dP,V3 dQ 0 0] tf73 aN.f3 fun jl cn=>?_))))))))
    refine wl_nil (qe_held (listed':=L_ 14 13) u ⟨⟨cn.hasK ((U.le.trans br.le).trans bs),cn.hasObj m7,cn.hasObj m4⟩,(fun _=>trivial),by decide⟩ (wg_done (by kernel_rfl) ?_))
    cases oi ak
    exact qd ⟨cl,dK,dL,dM,dN,dO,dP,dQ,0,0,gb,u,cn.f5.f5.f6.f3.s,((U.le.trans br.le).trans bs),(fZ.mono bs),(ga.mono bs),gc⟩
   refine b0 tInt underlying71 tf3 bq fun dR jm jo ay gd bN=>(wl_nil (qe_held (listed':=#[true,true,true,true,true,true,true,true,true,false,true,false,true,false]) u ⟨⟨bN.hasK (U.le.trans ay),bN.hasObj m6,bN.hasObj m3⟩,(fun _=>trivial),by decide⟩ (wg_one (i:=9) (by kernel_rfl) u (lk co21 (ok_impl_SegOf F bN.enter0 (SliceAt.mono ((((q.le.trans x.le).trans m.le).trans U.le).trans ay) af) (SliceAt.mono ((((q.le.trans x.le).trans m.le).trans U.le).trans ay) ag) (eI.mono ay) an) ?_))))
   rintro jp jq ⟨dS,dT,dU,dV,dW,dX,ge,rfl,bu,gg,gj⟩
   have aO:=(bN.c0 bu).t8
   refine wl_nil (qe_held (listed':=#[true,true,true,true,true,true,true,true,true,true,true,false,true,false]) u ⟨⟨aO.hasK ((U.le.trans ay).trans bu.le),aO.hasObj m7,aO.hasObj m4⟩,(fun _=>trivial),by decide⟩ (wg_val (i:=11) (listed':=L_ 14 12) (fun _=>True) u (by kernel_rfl) (pk_then (pk_then pk_body)) (by kernel_rfl) u (by kernel_rfl) (by kernel_rfl) u (.inl fun _ _=>trivial) ⟨⟨aO.hasK ((U.le.trans ay).trans bu.le),aO.hasObj m7,aO.hasObj m4⟩,(fun _=>trivial),by decide⟩ wn u (fun _ _=>(rv_build (cs:=#[V3 dS dT dU,V3 dV dW dX,V3 dR 0 0]) sp73 tf73 u (by kernel_rfl))) (wg_one (i:=13) (by kernel_rfl) u (lw [V3 dS dT dU,V3 dV dW dX,V3 dR 0 0] tf73 aO.f3 fun jr cp=>(wl_nil (qe_held (listed':=L_ 14 13) u ⟨⟨cp.hasK ((U.le.trans ay).trans bu.le),cp.hasObj m7,cp.hasObj m4⟩,(fun _=>trivial),by decide⟩ (wg_done (by kernel_rfl) ?_)))))))
   cases oi ak
   exact qd ⟨cl,dS,dT,dU,dV,dW,dX,dR,0,0,ge,u,cp.f5.f5.f6.f3.s,((U.le.trans ay).trans bu.le),gg,gj,(gd.mono bu.le)⟩
  refine b0 tInt underlying71 tf3 bp fun dY jt jw ar gk bO=>(wl_nil (qe_held (listed':=#[true,true,true,true,true,true,true,true,false,false,true,false,true,false]) u ⟨⟨bO.hasK ar,bO.hasObj m5,bO.hasObj m2⟩,(fun _=>trivial),by decide⟩ (wg_one (i:=8) (by kernel_rfl) u (lk co61 (ok_impl_allAlive F bO.enter0 (bF.mono ar) bE) ?_))))
  rintro jx jy ⟨jz,jA,jB,jC,ysX,rfl,au,gl,hpX,hwX⟩
  have eX:=sortT_any hxS hpX hwX
  subst eX
  have bP:=(bO.c0 au).t7
  refine wl_nil (qe_held (listed':=#[true,true,true,true,true,true,true,true,true,false,true,false,true,false]) u ⟨⟨bP.hasK (ar.trans au.le),bP.hasObj m6,bP.hasObj m3⟩,(fun _=>trivial),by decide⟩ (wg_one (i:=9) (by kernel_rfl) u (lk co21 (ok_impl_SegOf F bP.enter0 (SliceAt.mono ((((q.le.trans x.le).trans m.le).trans ar).trans au.le) af) (SliceAt.mono ((((q.le.trans x.le).trans m.le).trans ar).trans au.le) ag) gl an) ?_)))
  rintro jD jE ⟨dZ,ea,eb,ec,ed,ee,gm,rfl,bv,go,gp⟩
  have aP:=(bP.c0 bv).t8
  refine wl_nil (qe_held (listed':=#[true,true,true,true,true,true,true,true,true,true,true,false,true,false]) u ⟨⟨aP.hasK ((ar.trans au.le).trans bv.le),aP.hasObj m7,aP.hasObj m4⟩,(fun _=>trivial),by decide⟩ (wg_val (i:=11) (listed':=L_ 14 12) (fun _=>True) u (by kernel_rfl) (pk_then (pk_then pk_body)) (by kernel_rfl) u (by kernel_rfl) (by kernel_rfl) u (.inl fun _ _=>trivial) ⟨⟨aP.hasK ((ar.trans au.le).trans bv.le),aP.hasObj m7,aP.hasObj m4⟩,(fun _=>trivial),by decide⟩ wn u (fun _ _=>(rv_build (cs:=#[V3 dZ ea eb,V3 ec ed ee,V3 dY 0 0]) sp73 tf73 u (by kernel_rfl))) (wg_one (i:=13) (by kernel_rfl) u (lw [V3 dZ ea eb,V3 ec ed ee,V3 dY 0 0] tf73 aP.f3 fun jF cq=>(wl_nil (qe_held (listed':=L_ 14 13) u ⟨⟨cq.hasK ((ar.trans au.le).trans bv.le),cq.hasObj m7,cq.hasObj m4⟩,(fun _=>trivial),by decide⟩ (wg_done (by kernel_rfl) ?_)))))))
  cases oi ak
  exact qd ⟨cl,dZ,ea,eb,ec,ed,ee,dY,0,0,gm,u,cq.f5.f5.f6.f3.s,((ar.trans au.le).trans bv.le),go,gp,(gk.mono (au.le.trans bv.le))⟩
 rintro _ jG ⟨bD,V,W,X,Y,aa,ab,ac,ad,ae,aw,rfl,gq,cr,ef,eg,eh⟩
 refine qs ?_
 obtain⟨gr,gv,gw⟩:=ob fj
 refine wc_cutg (fun E' w'=>∃ct cu cv cw,E'=[(1,V6 q1),(4,pt bC),(6,pt ao),(8,V3 ct cu cv)]∧SH w K [] w' cw [obj bC [V3 none 0 0,V3 none 0 0,V3 none 0 0] 36,obj ao [V3 I J O,V3 R S T,V3 ah ai aj] 36,tail (V3 ah ai aj) 73 3,tail (V3 ct cu cv) 73 3]∧KLe aw cw∧SliceAt tGLive cw ct cu cv gr) ?_ ?_
 ·obtain⟨jH,gx,gy⟩:=ob gv
  obtain⟨jI,ei,gz⟩:=ob gy
  obtain⟨jJ,ej,ek⟩:=ob gz
  refine wc_held (fun w'=>Holds aw w'∧HasObj ao [V3 I J O,V3 R S T,V3 ah ai aj] w'∧HasObj bD [V3 V W X,V3 Y aa ab,V3 ac ad ae] w') (fun w'=>True) 10 [] mixed ?_
  have H:=gq.drew
  refine wg_val (i:=1) (listed':=#[false,true,false,false,false,false,false,false,false,false]) (fun _=>True) u (by kernel_rfl) (pk_then (pk_then pk_body)) (by kernel_rfl) u (by kernel_rfl) (by kernel_rfl) u (.inl fun _ _=>trivial) ⟨⟨H.hasK kr,H.hasObj m2,H.hasObj m0⟩,(fun _=>trivial),by decide⟩ wn u (fun _ _=>(rv_fieldAddr ff36_1 u)) (wg_val (i:=2) (listed':=#[false,true,true,false,false,false,false,false,false,false]) (HasObj ao [V3 I J O,V3 R S T,V3 ah ai aj]) u (by kernel_rfl) (pk_then (pk_then pk_body)) (by kernel_rfl) u (by kernel_rfl) (by kernel_rfl) u (.inl fun _ h=>h.2.1) ⟨⟨H.hasK kr,H.hasObj m2,H.hasObj m0⟩,(fun _=>trivial),by decide⟩ wn u (fun _ h=>rh_loadm1 tf34 u u h) (wg_val (i:=3) (listed':=#[false,true,true,true,false,false,false,false,false,false]) (fun _=>True) u (by kernel_rfl) (pk_then (pk_then pk_body)) (by kernel_rfl) u (by kernel_rfl) (by kernel_rfl) u (.inl fun _ _=>trivial) ⟨⟨H.hasK kr,H.hasObj m2,H.hasObj m0⟩,(fun _=>trivial),by decide⟩ wn u (fun _ _=>(rv_move u)) ?_))
  refine wg_sl_h (t:=tGLive) (j:=4) (listed':=#[false,true,true,true,true,false,false,false,false,false]) u (by kernel_rfl) (pk_then (pk_then pk_body)) (by kernel_rfl) u (by kernel_rfl) (by kernel_rfl) u ⟨⟨H.hasK kr,H.hasObj m2,H.hasObj m0⟩,(fun _=>trivial),by decide⟩ wn u underlying34 tf73 u u (bV.mono (m.le.trans cr)) gx fun jK jL jM el=>(wg_val (i:=6) (listed':=#[false,true,true,true,true,false,true,false,false,false]) (HasObj bD [V3 V W X,V3 Y aa ab,V3 ac ad ae]) u (by kernel_rfl) (pk_then (pk_then pk_body)) (by kernel_rfl) u (by kernel_rfl) (by kernel_rfl) u (.inl fun _ h=>h.2.2) ⟨⟨H.hasK kr,H.hasObj m2,H.hasObj m0⟩,(fun _=>trivial),by decide⟩ wn u (fun _ h=>rh_loadmS (ds:=[V3 V W X,V3 Y aa ab,V3 ac ad ae]) tf73 u u u h) (wg_many (l:=[0,7]) (by kernel_rfl) u ⟨⟨_,u,?_⟩,⟨_,u,?_⟩,trivial⟩))
  ·refine b0 tGLive underlying34 tf73 H fun jN jO jP y eJ bQ=>(wl_nil (qe_held (listed':=#[true,true,true,true,true,false,true,false,false,false]) u ⟨⟨bQ.hasK y,bQ.hasObj m3,bQ.hasObj m1⟩,(fun _=>trivial),by decide⟩ (wg_many (l:=[5,7]) (by kernel_rfl) u ⟨⟨_,u,?_⟩,⟨_,u,?_⟩,trivial⟩)))
   ·refine lp underlying34 tf73 eJ (el.mono y) ei bQ fun jQ jR jS jT jU az gA cx=>(wl_nil (qe_held (listed':=L_ 10 6) u ⟨⟨cx.hasK (y.trans az),cx.hasObj m3,cx.hasObj m1⟩,(fun _=>trivial),by decide⟩ (wg_one (i:=7) (by kernel_rfl) u (lb tGLive (.agg #[V3 V W X,V3 Y aa ab,V3 ac ad ae]) [V3 V W X,V3 Y aa ab,V3 ac ad ae] aW underlying34 tf73 ⟨V,W,X,Y,aa,ab,ac,ad,ae,u,(ef.mono (y.trans az)),(eg.mono (y.trans az)),(eh.mono (y.trans az))⟩ cx fun jV jW jX bR gB cy=>(wl_nil (qe_held (listed':=L_ 10 7) u ⟨⟨cy.hasK ((y.trans az).trans bR),cy.hasObj m4,cy.hasObj m2⟩,(fun _=>trivial),by decide⟩ (wg_one (i:=8) (by kernel_rfl) u (lp underlying34 tf73 (gA.mono bR) gB ej cy.f1 fun gC gD gE jY gF em gG aQ=>(wl_nil (qe_held (listed':=L_ 10 8) u ⟨⟨aQ.hasK (((y.trans az).trans bR).trans em),aQ.hasObj m4,aQ.hasObj m2⟩,(fun _=>trivial),by decide⟩ ?_))))))))))
    refine wg_val (i:=9) (listed':=L_ 10 9) (fun _=>True) u (by kernel_rfl) (pk_then (pk_then pk_body)) (by kernel_rfl) u (by kernel_rfl) (by kernel_rfl) u (.inl fun _ _=>trivial) ⟨⟨aQ.hasK (((y.trans az).trans bR).trans em),aQ.hasObj m4,aQ.hasObj m2⟩,(fun _=>trivial),by decide⟩ wn u (fun _ _=>(rv_assign u)) (wg_done (by kernel_rfl) ?_)
    cases oi ek
    exact qd ⟨gC,gD,gE,gF,u,aQ.f5.f5.f5.s,(((y.trans az).trans bR).trans em),gG⟩
   refine lb tGLive (.agg #[V3 V W X,V3 Y aa ab,V3 ac ad ae]) [V3 V W X,V3 Y aa ab,V3 ac ad ae] aW underlying34 tf73 ⟨V,W,X,Y,aa,ab,ac,ad,ae,u,(ef.mono y),(eg.mono y),(eh.mono y)⟩ bQ fun jZ ka kb aR gH cz=>(wl_nil (qe_held (listed':=#[true,true,true,true,true,false,true,true,false,false]) u ⟨⟨cz.hasK (y.trans aR),cz.hasObj m4,cz.hasObj m2⟩,(fun _=>trivial),by decide⟩ (wg_one (i:=5) (by kernel_rfl) u (lp underlying34 tf73 (eJ.mono aR) (el.mono (y.trans aR)) ei cz.f1 fun ke kf ki kj kk bS gI cA=>(wl_nil (qe_held (listed':=L_ 10 7) u ⟨⟨cA.hasK ((y.trans aR).trans bS),cA.hasObj m4,cA.hasObj m2⟩,(fun _=>trivial),by decide⟩ (wg_one (i:=8) (by kernel_rfl) u (lp underlying34 tf73 gI (gH.mono bS) ej cA fun gJ gK gL kl gM en gN aS=>(wl_nil (qe_held (listed':=L_ 10 8) u ⟨⟨aS.hasK (((y.trans aR).trans bS).trans en),aS.hasObj m4,aS.hasObj m2⟩,(fun _=>trivial),by decide⟩ ?_))))))))))
   refine wg_val (i:=9) (listed':=L_ 10 9) (fun _=>True) u (by kernel_rfl) (pk_then (pk_then pk_body)) (by kernel_rfl) u (by kernel_rfl) (by kernel_rfl) u (.inl fun _ _=>trivial) ⟨⟨aS.hasK (((y.trans aR).trans bS).trans en),aS.hasObj m4,aS.hasObj m2⟩,(fun _=>trivial),by decide⟩ wn u (fun _ _=>(rv_assign u)) (wg_done (by kernel_rfl) ?_)
   cases oi ek
   exact qd ⟨gJ,gK,gL,gM,u,aS.f5.f5.f5.s,(((y.trans aR).trans bS).trans en),gN⟩
  refine lb tGLive (.agg #[V3 V W X,V3 Y aa ab,V3 ac ad ae]) [V3 V W X,V3 Y aa ab,V3 ac ad ae] aW underlying34 tf73 ⟨V,W,X,Y,aa,ab,ac,ad,ae,u,ef,eg,eh⟩ H fun ko kp kq aT gO cB=>(wl_nil (qe_held (listed':=#[false,true,true,true,true,false,true,true,false,false]) u ⟨⟨cB.hasK aT,cB.hasObj m3,cB.hasObj m1⟩,(fun _=>trivial),by decide⟩ (wg_one (i:=0) (by kernel_rfl) u (b0 tGLive underlying34 tf73 cB fun ks kt kw aU gP cC=>(wl_nil (qe_held (listed':=#[true,true,true,true,true,false,true,true,false,false]) u ⟨⟨cC.hasK (aT.trans aU),cC.hasObj m4,cC.hasObj m2⟩,(fun _=>trivial),by decide⟩ (wg_one (i:=5) (by kernel_rfl) u (lp underlying34 tf73 gP (el.mono (aT.trans aU)) ei cC fun kx ky kz kA kB bT gQ cD=>(wl_nil (qe_held (listed':=L_ 10 7) u ⟨⟨cD.hasK ((aT.trans aU).trans bT),cD.hasObj m4,cD.hasObj m2⟩,(fun _=>trivial),by decide⟩ (wg_one (i:=8) (by kernel_rfl) u (lp underlying34 tf73 gQ (gO.mono (aU.trans bT)) ej cD fun gR gS gT kC gU eo gV aV=>?_))))))))))))
  refine wl_nil (qe_held (listed':=L_ 10 8) u ⟨⟨aV.hasK (((aT.trans aU).trans bT).trans eo),aV.hasObj m4,aV.hasObj m2⟩,(fun _=>trivial),by decide⟩ (wg_val (i:=9) (listed':=L_ 10 9) (fun _=>True) u (by kernel_rfl) (pk_then (pk_then pk_body)) (by kernel_rfl) u (by kernel_rfl) (by kernel_rfl) u (.inl fun _ _=>trivial) ⟨⟨aV.hasK (((aT.trans aU).trans bT).trans eo),aV.hasObj m4,aV.hasObj m2⟩,(fun _=>trivial),by decide⟩ wn u (fun _ _=>(rv_assign u)) (wg_done (by kernel_rfl) ?_)))
  cases oi ek
  exact qd ⟨gR,gS,gT,gU,u,aV.f5.f5.f5.s,(((aT.trans aU).trans bT).trans eo),gV⟩
 rintro _ kD ⟨ct,cu,cv,cw,rfl,eK,ep,gW⟩
 refine qr (mv u (fl ff36_1 u tf34 m1 eK u (mv u (lv (rv_add u u) ?_))))
 obtain⟨kE,gX,gY⟩:=ob gw
 refine wl_sl_l (t:=tGLive) wn u underlying34 tf73 u u (bV.mono ((m.le.trans cr).trans ep)) gX fun kF kG kH gZ=>?_
 obtain⟨kI,hb,hc⟩:=ob gY
 refine lp underlying34 tf73 gW gZ hb eK.f3 fun bz bA bB kJ hd eL he hf=>(fa ff36_1 u (ls [V3 I J O,V3 R S T,V3 bz bA bB] (V3 bz bA bB) tf34 hf.f2 fun kK eM=>(nr (lv (rv_loadmS (ds:=[V3 I J O,V3 R S T,V3 bz bA bB]) tf36 u m0 eM u u) (lw [V3 I J O,V3 R S T,V3 bz bA bB] tf36 eM.f2 fun kL eN=>(lv (r_t u) (nq (wc_ret ?_))))))))
 cases oi hc
 exact qe_ret (vs:=[_,_]) results47 ⟨⟨_,_,u,run_loadVar_at tf36 (cs:=[V3 I J O,V3 R S T,V3 bz bA bB]) (fun j c e=>by rw [Nat.zero_add,eN.mem_obj m0];exact e) (.inl ⟨u,u,u⟩)⟩,u,trivial⟩ ⟨I,J,O,R,S,T,bz,bA,bB,hd,u,eN.s,(SliceAt.mono (((m.le.trans cr).trans ep).trans eL) es),(SliceAt.mono (((m.le.trans cr).trans ep).trans eL) et),he⟩

theorem ok_laws_foTexts {q0:List Str}{q1:List Str}{r:Bool}(hS:SH w K [] w K [])(k:SliceAt tStr K A a b q0)(x:SliceAt tStr K B c d q1)(hm:M.laws_foTexts F q0 q1=some r):
  Calls prog 175 #[V3 A a b,V3 B c d] w (R_b w K r):=by
 rw [M.laws_foTexts] at hm
 refine ci func175 u ntmps175 (sr (lv (r_f u) (nsr (mv u (lv (rv_len underlying22 u k) (mv u (lv (rv_len underlying22 u x) (lv (rv_neq u u) (nq ?_)))))))))
 refine wc_cond u (fun l=>?_) (fun l=>?_)
 ·have m:=cond_t l hm
  refine sr (lv (r_f u) (nq (rr ?_)))
  cases oi m
  exact ey results175 ⟨K,u,hS⟩
 have m:=cond_f l hm
 refine wc_skip (qs (sr (lv (r_0 u) (nq ?_))))
 obtain⟨I,J,i⟩:=ob m
 refine wc_cutg (IE I w K [] K [] []) ?_ ?_
 ·refine wc_block ?_
  obtain⟨ap,O,y⟩:=ob J
  refine qw (fun (o:Int)=>IW w K [] K [(0,V3 A a b),(1,V3 B c d),(5,V6 o)] [] (rng64 o)) O ⟨K,u,hS,kr,d_0⟩ ?_
  rintro o _ aq ar R C ⟨S,rfl,D,f,au⟩
  refine wc_seq (sr (mv u (mv u (lv (rv_len underlying22 u (k.mono f)) (lv (rv_lss u u) (nq (wcc R u (fun T q=>?_) (fun T q=>?_))))))))
  ·refine wc_skip (qs (wc_block (wc_seq (wc_quiet mixed (by kernel_rfl) D (km u (km u ?_))))))
   obtain⟨U,V,W⟩:=ob q
   refine ki underlying22 tf9 (k.mono f) V fun X Y aw aa ab=>?_
   obtain⟨rfl,ax⟩:=aa
   have ac:AtK _ X Y [sv U]:=ab
   refine kh (rq_load1 tf9 u (ac 0 _ u)) (km u (km u ?_))
   obtain⟨ad,ae,af⟩:=ob W
   refine ki underlying22 tf9 (x.mono f) ae fun ag ah ay ai aj=>?_
   obtain⟨rfl,az⟩:=ai
   have ak:AtK _ ag ah [sv ad]:=aj
   refine kh (rq_load1 tf9 u (ak 0 _ u)) (kv (rv_sneq u u) (wq_nil ?_))
   rintro aA ⟨G,H,al⟩
   refine qe_seq (wcc af u (fun am s=>?_) (fun am s=>?_))
   ·refine sr (lv (r_f u) (nq (wc_ret (qe_block_ret (qe_then_ret (qe_then_ret ?_))))))
    cases oi s
    cases C _ u
    refine qe_block_ret (qe_then_ret ?_)
    cases oi y
    refine qe_then_ret ?_
    cases oi i
    exact ey results175 ⟨G,u,H⟩
   refine wc_skip (qe_block (qe_seq (wc_region (mv u (lv (rv_add u u) (av u (wl_nil ?_)))))))
   cases oi s
   exact qd ⟨_,u,G,u,H,(f.trans al),(w64_rng _)⟩
  refine wc_exit (qe_then_exit (qe_then_exit ?_))
  cases oi q
  cases C _ u
  refine qe_block_eq ?_
  cases oi y
  exact qe_mid' ⟨_,S,u,u,D,f⟩ trivial
 rintro _ aB ⟨aC,an,rfl,rfl,ao,aD⟩
 have i:=elim_l i
 refine qr (lv (r_t u) (nq (wc_ret ?_)))
 cases oi i
 exact ey results175 ⟨an,u,ao⟩

theorem ok_laws_foConf {q0:GConf}{q1:GConf}{r:Bool}(hS:SH w K [] w K [])(aj:SliceAt tStr K A a b q0.Stops)(H:SliceAt tGSyn K B c d q0.Syns)(ak:SliceAt tStr K C f i q1.Stops)(T:SliceAt tGSyn K D k l q1.Syns)(hm:M.laws_foConf F q0 q1=some r):
  Calls prog 111 #[.agg #[V3 A a b,V3 B c d],.agg #[V3 C f i,V3 D k l]] w (R_b w K r):=by
 rw [M.laws_foConf] at hm
 refine ci func111 u ntmps111 (sr (bx u hS fun q bQ al=>?_))
 have am:SH _ _ _ _ _ [obj q [V3 A a b,V3 B c d] 33]:=al
 refine bx u am fun s bR an=>?_
 have I:SH _ _ _ _ _ [obj s [V3 C f i,V3 D k l] 33,_]:=an
 refine lv (r_f u) (ns (wc_seq ?_))
 obtain⟨ao,ap,aq⟩:=ob hm
 refine wc_cutg (IV w K [] K [(2,pt q),(3,pt s),(20,.bool ao)] [obj q [V3 A a b,V3 B c d] 33,obj s [V3 C f i,V3 D k l] 33]) ?_ ?_
 ·refine wc_region (fl ff33_0 u tf22 m1 I u (fl ff33_0 u tf22 m0 I u ?_))
  obtain⟨bS,ar,au⟩:=ob ap
  refine lk co175 (ok_laws_foTexts F I.enter0 aj ak ar) ?_
  rintro bT bU ⟨ab,rfl,y⟩
  have J:=(I.c0 y).t2
  refine lv (rv_not u) (mv u (bt au (fun o U=>?_) (fun o U=>?_)))
  ·iterate 7 refine lu o ?_
   refine lv (p_t u o u) (wl_nil ?_)
   cases oi U
   exact qd ⟨ab,u,J.f1,y.le⟩
  refine lg o (rv_fieldAddr ff33_1 u) (lg o (rv_loadm1 tf31 u m1 J u) (lg o (rv_len underlying31 u (H.mono y.le)) (lg o (rv_fieldAddr ff33_1 u) (lg o (rv_loadm1 tf31 u m0 J u) (lg o (rv_len underlying31 u (T.mono y.le)) (lg o (rv_neq u u) (lv (rv_pick_f u o u) (wl_nil ?_))))))))
  cases oi U
  exact qd ⟨ab,u,J.f1,y.le⟩
 rintro _ bV ⟨O,rfl,ac,G⟩
 refine qe_seq (wcc aq u (fun aw V=>?_) (fun aw V=>?_))
 ·refine sr (lv (r_f u) (nq (rr ?_)))
  cases oi V
  exact ey results111 ⟨O,u,ac.s⟩
 refine wc_skip (qs (sr (lv (r_0 u) (nq ?_))))
 obtain⟨ax,ay,R⟩:=ob V
 refine wc_cutg (IE ax w K [] O [] []) ?_ ?_
 ·refine wc_block ?_
  obtain⟨bW,az,ad⟩:=ob ay
  refine qw (fun (S:Int)=>IW w K [] O [(2,pt q),(3,pt s),(5,V6 S)] [obj q [V3 A a b,V3 B c d] 33,obj s [V3 C f i,V3 D k l] 33] (rng64 S)) az ⟨O,u,ac,kr,d_0⟩ ?_
  rintro S _ bX bY aA ae ⟨af,rfl,W,x,bZ⟩
  refine wc_seq (sr (mv u (fl ff33_1 u tf31 m0 W u (lv (rv_len underlying31 u (H.mono (G.trans x))) (lv (rv_lss u u) (nq (wcc aA u (fun aB X=>?_) (fun aB X=>?_))))))))
  ·refine wc_skip (qs (wc_block (wc_seq ?_)))
   obtain⟨aC,aD,aE⟩:=ob X
   refine wc_cutg (IV w K [] af [(2,pt q),(3,pt s),(5,V6 S),(56,.bool aC)] [obj q [V3 A a b,V3 B c d] 33,obj s [V3 C f i,V3 D k l] 33]) ?_ ?_
   ·refine wc_quiet mixed (by kernel_rfl) W (kv (rv_fieldAddr ff33_1 u) (kh (rq_loadm1 tf31 u m0 u) (km u ?_)))
    obtain⟨aF,aG,aH⟩:=ob aD
    refine ki underlying31 tf159 (H.mono (G.trans x)) aG fun aI aJ ca aK aL=>?_
    obtain⟨aM,aN,aO,rfl,cb,cc⟩:=aK
    have aP:AtK _ aI aJ [V3 aM aN aO,sv aF.To]:=aL
    refine kv (rv_fieldAddr ff159_1 u) (kh (rq_load1 tf9 u (aP 1 _ u)) (kv (rv_fieldAddr ff33_1 u) (kh (rq_loadm1 tf31 u m1 u) (km u ?_))))
    obtain⟨aQ,aR,aS⟩:=ob aH
    refine ki underlying31 tf159 (T.mono (G.trans x)) aR fun aT aU cd aV aW=>?_
    obtain⟨aX,aY,aZ,rfl,ce,cf⟩:=aV
    have ba:AtK _ aT aU [V3 aX aY aZ,sv aQ.To]:=aW
    refine kv (rv_fieldAddr ff159_1 u) (kh (rq_load1 tf9 u (ba 1 _ u)) (kv (rv_sneq u u) (km u (bt aS (fun m Y=>?_) (fun m Y=>?_)))))
    ·iterate 14 refine kn m ?_
     refine kv (p_t u m u) (wq_nil ?_)
     rintro cg ⟨bb,bc,bd⟩
     cases oi Y
     exact qd ⟨bb,u,bc,bd⟩
    refine kg m (rv_fieldAddr ff33_1 u) (kgh m (rq_loadm1 tf31 u m0 u) (kg m (rv_move u) ?_))
    obtain⟨be,bf,bg⟩:=ob Y
    refine wq_indexAddr (t:=tGSyn) (wg u u m) u underlying31 tf159 u u (H.mono (G.trans x)) bf fun bh bi ch bj bk=>?_
    obtain⟨bl,bm,bn,rfl,bo,cj⟩:=bj
    have bp:AtK _ bh bi [V3 bl bm bn,sv be.To]:=bk
    refine kg m (rv_fieldAddr ff159_0 u) (kgh m (rq_load1 tf22 u (bp 0 _ u)) (kg m (rv_fieldAddr ff33_1 u) (kgh m (rq_loadm1 tf31 u m1 u) (kg m (rv_move u) ?_))))
    obtain⟨bq,br,bs⟩:=ob bg
    refine wq_indexAddr (t:=tGSyn) (wg u u m) u underlying31 tf159 u u (T.mono (G.trans x)) br fun bu bv ck bz bA=>?_
    obtain⟨bB,bC,bD,rfl,bE,cl⟩:=bz
    have bF:AtK _ bu bv [V3 bB bC bD,sv bq.To]:=bA
    refine kg m (rv_fieldAddr ff159_0 u) (kgh m (rq_load1 tf22 u (bF 0 _ u)) ?_)
    obtain⟨cm,bG,bH⟩:=ob bs
    refine kcg m co175 (fun _ _ bI ag=>(ok_laws_foTexts F) bI.enter0 (bo.mono ag) (bE.mono ag) bG) (kg m (rv_not u) (kv (rv_pick_f u m u) (wq_nil ?_)))
    rintro cn ⟨bJ,bK,bL⟩
    cases oi bH
    exact qd ⟨bJ,u,bK,bL⟩
   rintro _ cp ⟨ah,rfl,ai,bM⟩
   refine qe_seq (wcc aE u (fun bN aa=>?_) (fun bN aa=>?_))
   ·refine sr (lv (r_f u) (nq (wc_ret (qe_block_ret (qe_then_ret (qe_then_ret ?_))))))
    cases oi aa
    cases ae _ u
    refine qe_block_ret (qe_then_ret ?_)
    cases oi ad
    refine qe_then_ret ?_
    cases oi R
    exact ey results111 ⟨ah,u,ai.s⟩
   refine wc_skip (qe_block (qe_seq (wc_region (mv u (lv (rv_add u u) (av u (wl_nil ?_)))))))
   cases oi aa
   exact qd ⟨_,u,ah,u,ai,(x.trans bM),(w64_rng _)⟩
  refine wc_exit (qe_then_exit (qe_then_exit ?_))
  cases oi X
  cases ae _ u
  refine qe_block_eq ?_
  cases oi ad
  exact qe_mid' ⟨_,af,u,u,W.s,x⟩ trivial
 rintro _ cq ⟨cr,bO,rfl,rfl,bP,cs⟩
 have R:=elim_l R
 refine qr (lv (r_t u) (nq (wc_ret ?_)))
 cases oi R
 exact ey results111 ⟨bO,u,bP⟩

theorem ok_laws_foInts {q0:List Int}{q1:List Int}{r:Bool}(hS:SH w K [] w K [])(k:SliceAt tInt K A a b q0)(x:SliceAt tInt K B c d q1)(hm:M.laws_foInts F q0 q1=some r):
  Calls prog 177 #[V3 A a b,V3 B c d] w (R_b w K r):=by
 rw [M.laws_foInts] at hm
 refine ci func177 u ntmps177 (sr (lv (r_f u) (nsr (mv u (lv (rv_len underlying71 u k) (mv u (lv (rv_len underlying71 u x) (lv (rv_neq u u) (nq ?_)))))))))
 refine wc_cond u (fun l=>?_) (fun l=>?_)
 ·have m:=cond_t l hm
  refine sr (lv (r_f u) (nq (rr ?_)))
  cases oi m
  exact ey results177 ⟨K,u,hS⟩
 have m:=cond_f l hm
 refine wc_skip (qs (sr (lv (r_0 u) (nq ?_))))
 obtain⟨I,J,i⟩:=ob m
 refine wc_cutg (IE I w K [] K [] []) ?_ ?_
 ·refine wc_block ?_
  obtain⟨ap,O,y⟩:=ob J
  refine qw (fun (o:Int)=>IW w K [] K [(0,V3 A a b),(1,V3 B c d),(5,V6 o)] [] (rng64 o)) O ⟨K,u,hS,kr,d_0⟩ ?_
  rintro o _ aq ar R C ⟨S,rfl,D,f,au⟩
  refine wc_seq (sr (mv u (mv u (lv (rv_len underlying71 u (k.mono f)) (lv (rv_lss u u) (nq (wcc R u (fun T q=>?_) (fun T q=>?_))))))))
  ·refine wc_skip (qs (wc_block (wc_seq (wc_quiet mixed (by kernel_rfl) D (km u (km u ?_))))))
   obtain⟨U,V,W⟩:=ob q
   refine ki underlying71 tf3 (k.mono f) V fun X Y aw aa ab=>?_
   obtain⟨rfl,ax⟩:=aa
   have ac:AtK _ X Y [V6 U]:=ab
   refine kh (rq_load1 tf3 u (ac 0 _ u)) (km u (km u ?_))
   obtain⟨ad,ae,af⟩:=ob W
   refine ki underlying71 tf3 (x.mono f) ae fun ag ah ay ai aj=>?_
   obtain⟨rfl,az⟩:=ai
   have ak:AtK _ ag ah [V6 ad]:=aj
   refine kh (rq_load1 tf3 u (ak 0 _ u)) (kv (rv_neq u u) (wq_nil ?_))
   rintro aA ⟨G,H,al⟩
   refine qe_seq (wcc af u (fun am s=>?_) (fun am s=>?_))
   ·refine sr (lv (r_f u) (nq (wc_ret (qe_block_ret (qe_then_ret (qe_then_ret ?_))))))
    cases oi s
    cases C _ u
    refine qe_block_ret (qe_then_ret ?_)
    cases oi y
    refine qe_then_ret ?_
    cases oi i
    exact ey results177 ⟨G,u,H⟩
   refine wc_skip (qe_block (qe_seq (wc_region (mv u (lv (rv_add u u) (av u (wl_nil ?_)))))))
   cases oi s
   exact qd ⟨_,u,G,u,H,(f.trans al),(w64_rng _)⟩
  refine wc_exit (qe_then_exit (qe_then_exit ?_))
  cases oi q
  cases C _ u
  refine qe_block_eq ?_
  cases oi y
  exact qe_mid' ⟨_,S,u,u,D,f⟩ trivial
 rintro _ aB ⟨aC,an,rfl,rfl,ao,aD⟩
 have i:=elim_l i
 refine qr (lv (r_t u) (nq (wc_ret ?_)))
 cases oi i
 exact ey results177 ⟨an,u,ao⟩
end Go.Proofs.YtpjefkdclnmlfaaGreat
