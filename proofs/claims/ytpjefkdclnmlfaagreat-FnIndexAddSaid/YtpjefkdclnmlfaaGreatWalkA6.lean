/-
 Walks of the functions. Printed by gen.py.
-/
import Derived.Test.YtpjefkdclnmlfaaGreatWalkA0
import Derived.Test.YtpjefkdclnmlfaaGreatWalkA1
import Derived.Test.YtpjefkdclnmlfaaGreatWalkA2
import Derived.Test.YtpjefkdclnmlfaaGreatWalkA5
set_option linter.unusedVariables false
set_option linter.unusedSectionVars false
set_option maxRecDepth 100000
namespace Go.Proofs.YtpjefkdclnmlfaaGreat
set_option maxHeartbeats 4000000
open Go Go.Fk Go.RowKit Tryz
variable (F:Nat){w:World}{K:KMap}{Z:List Nat}{g1 g2 g3:Nat}{A B C D G H I J O R S T:Option Addr}{a b c d f i k l m n o p q s v x y aa ab ac ad ae af ag:Nat}
variable [dr:Dr]

theorem ok_spec_IndexMerge {q0:GIndex}{q1:Int}{r:GIndex×Bool}(hS:SH w K [] w K [])(aE:SliceAt tStr K A a b q0.Conf.Stops)(aF:SliceAt tGSyn K B c d q0.Conf.Syns)(ar:SliceAt tGLive K C f i q0.Segs)(bX:rng64 q1)(hm:M.spec_IndexMerge F q0 q1=some r):
  Calls prog 48 #[.agg #[V3 A a b,V3 B c d,V3 C f i],V6 q1] w fun e w'=>∃a_1 n_2 c_3 a_5 n_6 c_7 a_9 n_10 c_11 K',e= .returned (.tuple #[.agg #[V3 a_1 n_2 c_3,V3 a_5 n_6 c_7,V3 a_9 n_10 c_11],.bool r.2])∧SH w K [] w' K' [tail (V3 a_9 n_10 c_11) 73 3]∧SliceAt tStr K' a_1 n_2 c_3 r.1.Conf.Stops∧SliceAt tGSyn K' a_5 n_6 c_7 r.1.Conf.Syns∧SliceAt tGLive K' a_9 n_10 c_11 r.1.Segs:=by
 rw [M.spec_IndexMerge] at hm
 refine ci func48 u ntmps48 (sr (bx u hS fun aG dB bY=>?_))
 have bZ:SH _ _ _ _ _ [obj aG [V3 A a b,V3 B c d,V3 C f i] 36]:=bY
 refine al tf36 bZ fun aY dC ca=>?_
 have aZ:SH _ _ _ _ _ [obj aY [V3 none 0 0,V3 none 0 0,V3 none 0 0] 36,_]:=ca
 refine lv (r_f u) (nsr (lv (rv_loadmS (ds:=[V3 A a b,V3 B c d,V3 C f i]) tf36 u m1 aZ u u) ?_))
 obtain⟨dD,cb,cc⟩:=ob hm
 refine lk co57 (ok_spec_l18Ok F aZ.enter0 aE aF ar cb) ?_
 rintro dE dF ⟨cd,rfl,T⟩
 have aH:=(aZ.c0 T).t2
 refine lv (rv_not u) (nq (wcc cc u (fun ce ba=>?_) (fun ce ba=>?_)))
 ·refine sr (lv (rv_build (cs:=#[V3 none 0 0,V3 none 0 0,V3 none 0 0]) sp36 tf36 u (by kernel_rfl)) (lw [V3 none 0 0,V3 none 0 0,V3 none 0 0] tf36 aH fun dG bN=>(lv (r_f u) (nq (rr ?_)))))
  cases oi ba
  have cf:=bN.nil 73 3
  exact qe_ret (vs:=[_,_]) results48 ⟨⟨_,_,u,run_loadVar_at tf36 (cs:=[V3 none 0 0,V3 none 0 0,V3 none 0 0]) (fun j c e=>by rw [Nat.zero_add,bN.mem_obj m0];exact e) (.inl ⟨u,u,u⟩)⟩,u,trivial⟩ ⟨none,0,0,none,0,0,none,0,0,cd,u,cf.s,(SliceAt.nil _ _),(SliceAt.nil _ _),(SliceAt.nil _ _)⟩
 refine wc_skip (qs (sr (mv u (fl ff36_1 u tf34 m1 aH u (lv (rv_len underlying34 u (ar.mono T.le)) (lv (rv_sub u u) ?_))))))
 obtain⟨dH,cg,ch⟩:=ob ba
 refine lk co109 (ok_spec_l1In F aH.enter0 bX d_0 (w64_rng _) cg) ?_
 rintro dI dJ ⟨dK,rfl,U⟩
 have ai:=(aH.c0 U).t2
 refine lv (rv_not u) (nq (wcc ch u (fun cj bb=>?_) (fun cj bb=>?_)))
 ·refine sr (lv (rv_loadmS (ds:=[V3 A a b,V3 B c d,V3 C f i]) tf36 u m1 ai u u) ?_)
  obtain⟨dL,ck,cl⟩:=ob bb
  refine lk co110 (ok_spec_l18Copy F ai.enter0 (aE.mono (T.le.trans U.le)) (aF.mono (T.le.trans U.le)) (ar.mono (T.le.trans U.le)) ck) ?_
  rintro dM dN ⟨bc,bd,be,bf,bg,bh,bi,bj,bk,cs64,dO,rfl,cm,cn,cp,hrow65,hm66⟩
  have cq:=(ai.c0 cm).t3
  obtain⟨cr,bO,ct,cu⟩:=SH.freezeI cq hrow65 hm66
  refine lw [V3 bc bd be,V3 bf bg bh,V3 bi bj bk] tf36 cu.f1 fun dP bP=>(lv (r_f u) (nq (rr ?_)))
  cases oi cl
  exact qe_ret (vs:=[_,_]) results48 ⟨⟨_,_,u,run_loadVar_at tf36 (cs:=[V3 bc bd be,V3 bf bg bh,V3 bi bj bk]) (fun j c e=>by rw [Nat.zero_add,bP.mem_obj m0];exact e) (.inl ⟨u,u,u⟩)⟩,u,trivial⟩ ⟨bc,bd,be,bf,bg,bh,bi,bj,bk,cr,u,bP.s,(cn.mono bO),(cp.mono bO),ct⟩
 refine wc_skip (qr (fl ff36_1 u tf34 m1 ai u (mv u (mv u (lv (rv_add u u) ?_)))))
 obtain⟨cv,cw,cx⟩:=ob bb
 refine wl_sl_lh (t:=tGLive) wn u underlying34 tf73 u u u (ar.mono (T.le.trans U.le)) cw fun cy cz cA cB=>(lv (rv_build (cs:=#[V3 none 0 0,V3 none 0 0,V3 cy cz cA]) sp36 tf36 u (by kernel_rfl)) ?_)
 obtain⟨dQ,cC,cD⟩:=ob cx
 refine lk co99 ((ok_spec_l18Docs F (q0:=(GIndex.mk (GConf.mk ([]:List Str) ([]:List GSyn)) cv))) ai.enter0 (SliceAt.nil _ _) (SliceAt.nil _ _) cB cC) ?_
 rintro dR dS ⟨cE,cF,cG,dT,rfl,aj,cH⟩
 have bl:=(ai.c0 aj).t3
 refine av u (nr (lv (rv_loadmS (ds:=[V3 A a b,V3 B c d,V3 C f i]) tf36 u m2 bl u u) ?_))
 obtain⟨dU,cI,cJ⟩:=ob cD
 refine lk co110 (ok_spec_l18Copy F bl.enter0 (aE.mono ((T.le.trans U.le).trans aj.le)) (aF.mono ((T.le.trans U.le).trans aj.le)) (ar.mono ((T.le.trans U.le).trans aj.le)) cI) ?_
 rintro dV dW ⟨m,o,q,s,x,y,Y,aa,ab,cs113,dX,rfl,aI,bm,bn,hrow114,hm115⟩
 have cK:=(bl.c0 aI).t4
 obtain⟨bQ,V,bR,cL⟩:=SH.freezeI cK hrow114 hm115
 refine al tf36 cL fun ac dY cM=>?_
 have cN:SH _ _ _ _ _ [obj ac [V3 none 0 0,V3 none 0 0,V3 none 0 0] 36,_,_,_,_]:=cM
 refine lw [V3 m o q,V3 s x y,V3 Y aa ab] tf36 cN fun dZ cO=>(ns ?_)
 obtain⟨bo,cP,cQ⟩:=ob cJ
 refine wc_cutg (fun E' w'=>∃ak H I J O R S au aw ax ae,E'=[(1,V6 q1),(2,pt aG),(4,pt aY),(6,V3 cE cF cG),(7,pt ac),(8,pt ak)]∧SH w K [] w' ae [obj ak [V3 H I J,V3 O R S,V3 au aw ax] 36,tail (V3 au aw ax) 73 3,obj aG [V3 A a b,V3 B c d,V3 C f i] 36,obj aY [V3 none 0 0,V3 none 0 0,V3 none 0 0] 36,obj ac [V3 m o q,V3 s x y,V3 Y aa ab] 36,tail (V3 Y aa ab) 73 3]∧KLe bQ ae∧SliceAt tStr ae H I J bo.Conf.Stops∧SliceAt tGSyn ae O R S bo.Conf.Syns∧SliceAt tGLive ae au aw ax bo.Segs) ?_ ?_
 ·obtain⟨ea,cR,cS⟩:=ob cP
  obtain⟨eb,bp,bq⟩:=ob cS
  refine wc_held (fun w'=>Holds bQ w'∧HasObj ac [V3 m o q,V3 s x y,V3 Y aa ab] w') (fun w'=>True) 11 [] mixed ?_
  have G:=cO.drew
  refine wg_val (i:=0) (listed':=L_ 11 0) (fun _=>True) u (by kernel_rfl) (pk_then (pk_then pk_body)) (by kernel_rfl) u (by kernel_rfl) (by kernel_rfl) u (.inl fun _ _=>trivial) ⟨⟨G.hasK kr,G.hasObj m0⟩,(fun _=>trivial),by decide⟩ wn u (fun _ _=>(rv_fieldAddr ff36_0 u)) (wg_val (i:=1) (listed':=L_ 11 1) (HasObj ac [V3 m o q,V3 s x y,V3 Y aa ab]) u (by kernel_rfl) (pk_then (pk_then pk_body)) (by kernel_rfl) u (by kernel_rfl) (by kernel_rfl) u (.inl fun _ h=>h.2) ⟨⟨G.hasK kr,G.hasObj m0⟩,(fun _=>trivial),by decide⟩ wn u (fun _ h=>rh_loadmS (ds:=[V3 m o q,V3 s x y]) tf33 u u u h) (wg_val (i:=3) (listed':=#[true,true,false,true,false,false,false,false,false,false,false]) (fun _=>True) u (by kernel_rfl) (pk_then (pk_then pk_body)) (by kernel_rfl) u (by kernel_rfl) (by kernel_rfl) u (.inl fun _ _=>trivial) ⟨⟨G.hasK kr,G.hasObj m0⟩,(fun _=>trivial),by decide⟩ wn u (fun _ _=>(rv_fieldAddr ff36_1 u)) ?_))
  refine wg_val (i:=4) (listed':=#[true,true,false,true,true,false,false,false,false,false,false]) (HasObj ac [V3 m o q,V3 s x y,V3 Y aa ab]) u (by kernel_rfl) (pk_then (pk_then pk_body)) (by kernel_rfl) u (by kernel_rfl) (by kernel_rfl) u (.inl fun _ h=>h.2) ⟨⟨G.hasK kr,G.hasObj m0⟩,(fun _=>trivial),by decide⟩ wn u (fun _ h=>rh_loadm1 tf34 u u h) (wg_val (i:=5) (listed':=#[true,true,false,true,true,true,false,false,false,false,false]) (fun _=>True) u (by kernel_rfl) (pk_then (pk_then pk_body)) (by kernel_rfl) u (by kernel_rfl) (by kernel_rfl) u (.inl fun _ _=>trivial) ⟨⟨G.hasK kr,G.hasObj m0⟩,(fun _=>trivial),by decide⟩ wn u (fun _ _=>(rv_move u)) (wg_sl_h (t:=tGLive) (j:=6) (listed':=#[true,true,false,true,true,true,true,false,false,false,false]) u (by kernel_rfl) (pk_then (pk_then pk_body)) (by kernel_rfl) u (by kernel_rfl) (by kernel_rfl) u ⟨⟨G.hasK kr,G.hasObj m0⟩,(fun _=>trivial),by decide⟩ wn u underlying34 tf73 u u bR cR fun ec ed ee br=>(wg_many (l:=[2,9]) (by kernel_rfl) u ⟨⟨_,u,?_⟩,⟨_,u,?_⟩,trivial⟩)))
  ·refine b0 tGLive underlying34 tf73 G fun ef eg eh D bS aJ=>(wl_nil (qe_held (listed':=L_ 11 6) u ⟨⟨aJ.hasK D,aJ.hasObj m1⟩,(fun _=>trivial),by decide⟩ (wg_many (l:=[7,9]) (by kernel_rfl) u ⟨⟨_,u,?_⟩,⟨_,u,?_⟩,trivial⟩)))
   ·refine lp underlying34 tf73 bS (br.mono D) bp aJ fun bs bu bv ei cT af cU ay=>(wl_nil (qe_held (listed':=L_ 11 7) u ⟨⟨ay.hasK (D.trans af),ay.hasObj m1⟩,(fun _=>trivial),by decide⟩ (wg_val (i:=8) (listed':=L_ 11 8) (fun _=>True) u (by kernel_rfl) (pk_then (pk_then pk_body)) (by kernel_rfl) u (by kernel_rfl) (by kernel_rfl) u (.inl fun _ _=>trivial) ⟨⟨ay.hasK (D.trans af),ay.hasObj m1⟩,(fun _=>trivial),by decide⟩ wn u (fun _ _=>(rv_build (cs:=#[V3 m o q,V3 s x y,V3 bs bu bv]) sp36 tf36 u (by kernel_rfl))) (wg_one (i:=9) (by kernel_rfl) u (al tf36 ay fun bT ej cV=>?_)))))
    have bz:SH _ _ _ _ _ [obj bT [V3 none 0 0,V3 none 0 0,V3 none 0 0] 36,_,_,_,_,_,_]:=cV
    refine wl_nil (qe_held (listed':=L_ 11 9) u ⟨⟨bz.hasK (D.trans af),bz.hasObj m2⟩,(fun _=>trivial),by decide⟩ (wg_one (i:=10) (by kernel_rfl) u (lw [V3 m o q,V3 s x y,V3 bs bu bv] tf36 bz fun ek bA=>(wl_nil (qe_held (listed':=L_ 11 10) u ⟨⟨bA.hasK (D.trans af),bA.hasObj m2⟩,(fun _=>trivial),by decide⟩ (wg_done (by kernel_rfl) ?_))))))
    cases oi bq
    exact qd ⟨bT,m,o,q,s,x,y,bs,bu,bv,cT,u,bA.f3.f3.f5.f6.f5.f5.s,(D.trans af),(bm.mono ((V.trans D).trans af)),(bn.mono ((V.trans D).trans af)),cU⟩
   refine al tf36 aJ fun bU el cW=>?_
   have bB:SH _ _ _ _ _ [obj bU [V3 none 0 0,V3 none 0 0,V3 none 0 0] 36,_,_,_,_,_,_]:=cW
   refine wl_nil (qe_held (listed':=#[true,true,true,true,true,true,true,false,false,true,false]) u ⟨⟨bB.hasK D,bB.hasObj m2⟩,(fun _=>trivial),by decide⟩ (wg_one (i:=7) (by kernel_rfl) u (lp underlying34 tf73 bS (br.mono D) bp bB.f1 fun bC bD bE em cX am cY az=>(wl_nil (qe_held (listed':=#[true,true,true,true,true,true,true,true,false,true,false]) u ⟨⟨az.hasK (D.trans am),az.hasObj m2⟩,(fun _=>trivial),by decide⟩ (wg_val (i:=8) (listed':=L_ 11 9) (fun _=>True) u (by kernel_rfl) (pk_then (pk_then pk_body)) (by kernel_rfl) u (by kernel_rfl) (by kernel_rfl) u (.inl fun _ _=>trivial) ⟨⟨az.hasK (D.trans am),az.hasObj m2⟩,(fun _=>trivial),by decide⟩ wn u (fun _ _=>(rv_build (cs:=#[V3 m o q,V3 s x y,V3 bC bD bE]) sp36 tf36 u (by kernel_rfl))) (wg_one (i:=10) (by kernel_rfl) u (lw [V3 m o q,V3 s x y,V3 bC bD bE] tf36 az.f1 fun en bF=>?_))))))))
   refine wl_nil (qe_held (listed':=L_ 11 10) u ⟨⟨bF.hasK (D.trans am),bF.hasObj m2⟩,(fun _=>trivial),by decide⟩ (wg_done (by kernel_rfl) ?_))
   cases oi bq
   exact qd ⟨bU,m,o,q,s,x,y,bC,bD,bE,cX,u,bF.f3.f3.f5.f6.f5.f5.s,(D.trans am),(bm.mono ((V.trans D).trans am)),(bn.mono ((V.trans D).trans am)),cY⟩
  refine al tf36 G fun bV eo cZ=>?_
  have bG:SH _ _ _ _ _ [obj bV [V3 none 0 0,V3 none 0 0,V3 none 0 0] 36,_,_,_,_,_]:=cZ
  refine wl_nil (qe_held (listed':=#[true,true,false,true,true,true,true,false,false,true,false]) u ⟨⟨bG.hasK kr,bG.hasObj m1⟩,(fun _=>trivial),by decide⟩ (wg_one (i:=2) (by kernel_rfl) u (b0 tGLive underlying34 tf73 bG fun ep eq es ad da bH=>(wl_nil (qe_held (listed':=#[true,true,true,true,true,true,true,false,false,true,false]) u ⟨⟨bH.hasK ad,bH.hasObj m2⟩,(fun _=>trivial),by decide⟩ (wg_one (i:=7) (by kernel_rfl) u (lp underlying34 tf73 da (br.mono ad) bp bH fun bI bJ bK et db an dc aA=>(wl_nil (qe_held (listed':=#[true,true,true,true,true,true,true,true,false,true,false]) u ⟨⟨aA.hasK (ad.trans an),aA.hasObj m2⟩,(fun _=>trivial),by decide⟩ (wg_val (i:=8) (listed':=L_ 11 9) (fun _=>True) u (by kernel_rfl) (pk_then (pk_then pk_body)) (by kernel_rfl) u (by kernel_rfl) (by kernel_rfl) u (.inl fun _ _=>trivial) ⟨⟨aA.hasK (ad.trans an),aA.hasObj m2⟩,(fun _=>trivial),by decide⟩ wn u (fun _ _=>(rv_build (cs:=#[V3 m o q,V3 s x y,V3 bI bJ bK]) sp36 tf36 u (by kernel_rfl))) (wg_one (i:=10) (by kernel_rfl) u ?_)))))))))))
  refine lw [V3 m o q,V3 s x y,V3 bI bJ bK] tf36 aA.f1 fun eu bL=>(wl_nil (qe_held (listed':=L_ 11 10) u ⟨⟨bL.hasK (ad.trans an),bL.hasObj m2⟩,(fun _=>trivial),by decide⟩ (wg_done (by kernel_rfl) ?_)))
  cases oi bq
  exact qd ⟨bV,m,o,q,s,x,y,bI,bJ,bK,db,u,bL.f3.f3.f5.f6.f5.f5.s,(ad.trans an),(bm.mono ((V.trans ad).trans an)),(bn.mono ((V.trans ad).trans an)),dc⟩
 rintro _ ev ⟨ak,H,I,J,O,R,S,au,aw,ax,ae,rfl,dd,aK,de,df,dg⟩
 refine qs ?_
 have aB:=dd.drew
 refine wh1 (fun w'=>Holds ae w'∧HasObj aG [V3 A a b,V3 B c d,V3 C f i] w') (fun w'=>HasObj ak [V3 H I J,V3 O R S,V3 au aw ax] w') 10 [(1,8),(1,9),(1,10),(8,9),(8,10),(9,10)] mixed ⟨aB.hasK kr,aB.hasObj m2⟩ (fun _=>aB.hasObj (.head _)) (gt (rv_fieldAddr ff36_1 u) (gf (fun _ h=>rh_loadm1 tf34 u u h) (gt (rv_fieldAddr ff36_0 u) (gh (fun _ h=>rh_loadmS (ds:=[V3 A a b,V3 B c d]) tf33 u u u h.2) (gt (rv_move u) (gn ?_))))))
 obtain⟨dh,di,dj⟩:=ob cQ
 refine lk co68 (ok_spec_l7Of F aB.enter0 (SliceAt.mono (((((T.le.trans U.le).trans aj.le).trans aI.le).trans V).trans aK) aE) (SliceAt.mono (((((T.le.trans U.le).trans aj.le).trans aI.le).trans V).trans aK) aF) (cH.mono ((aI.le.trans V).trans aK)) di) ?_
 rintro ew ex ⟨aL,aM,aN,aO,aP,aQ,cs277,eA,rfl,W,dk,hrow278,hm279⟩
 have dl:=(aB.c0 W).t8
 obtain⟨eB,X,dm,aR⟩:=SH.freezeI dl.f1 hrow278 hm279
 refine wl_nil (qh ⟨aR.hasK (W.le.trans X),aR.hasObj m4⟩ (fun _=>aR.hasObj (.tail _ (.tail _ (.head _)))) (gt (rv_build (cs:=#[V3 aL aM aN,V3 aO aP aQ,V3 none 0 0]) sp73 tf73 u (by kernel_rfl)) (gn (lb tGLive (.agg #[V3 aL aM aN,V3 aO aP aQ,V3 none 0 0]) [V3 aL aM aN,V3 aO aP aQ,V3 none 0 0] (GLive.mk dh ([]:List Int)) underlying34 tf73 ⟨aL,aM,aN,aO,aP,aQ,none,0,0,u,(dk.mono X),dm,(SliceAt.nil _ _)⟩ aR fun eC eD eE ag dn aS=>(wl_nil (qh ⟨aS.hasK ((W.le.trans X).trans ag),aS.hasObj m5⟩ (fun _=>aS.hasObj (.tail _ (.tail _ (.tail _ (.head _))))) (gn ?_)))))))
 obtain⟨eF,dp,dq⟩:=ob dj
 refine lp underlying34 tf73 (dg.mono ((W.le.trans X).trans ag)) dn dp aS.f4 fun aT aU aV eG dr aC dt aW=>(wl_nil (qh ⟨aW.hasK (((W.le.trans X).trans ag).trans aC),aW.hasObj m5⟩ (fun _=>aW.hasObj (.tail _ (.tail _ (.tail _ (.tail _ (.head _)))))) (gt (rv_fieldAddr ff36_1 u) (gn (ls [V3 H I J,V3 O R S,V3 aT aU aV] (V3 aT aU aV) tf34 aW.f4 fun eH bM=>(wl_nil (qh ⟨bM.hasK (((W.le.trans X).trans ag).trans aC),bM.hasObj m5⟩ (fun h=>nomatch h) (gd' (qs (wc_held (fun w'=>Holds dr w'∧HasObj ac [V3 m o q,V3 s x y,V3 Y aa ab] w') (fun w'=>HasObj ak [V3 H I J,V3 O R S,V3 aT aU aV] w') 9 [(1,7),(1,8),(1,9),(7,8),(7,9),(8,9)] mixed ?_))))))))))
 have k:=bM.drew
 refine wg_val (i:=0) (listed':=L_ 10 0) (fun _=>True) u (by kernel_rfl) (pk_then pk_body) (by kernel_rfl) u (by kernel_rfl) (by kernel_rfl) u (.inl fun _ _=>trivial) ⟨⟨k.hasK kr,k.hasObj m7⟩,(fun _=>k.hasObj (.head _)),by decide⟩ wn u (fun _ _=>(rv_fieldAddr ff36_1 u)) (wg_val (i:=1) (listed':=L_ 10 1) (HasObj ak [V3 H I J,V3 O R S,V3 aT aU aV]) u (by kernel_rfl) (pk_then pk_body) (by kernel_rfl) u (by kernel_rfl) (by kernel_rfl) u (.inr ⟨u,fun _ _ h=>h⟩) ⟨⟨k.hasK kr,k.hasObj m7⟩,(fun _=>k.hasObj (.head _)),by decide⟩ wn u (fun _ h=>rh_loadm1 tf34 u u h) (wg_val (i:=2) (listed':=L_ 10 2) (fun _=>True) u (by kernel_rfl) (pk_then pk_body) (by kernel_rfl) u (by kernel_rfl) (by kernel_rfl) u (.inl fun _ _=>trivial) ⟨⟨k.hasK kr,k.hasObj m7⟩,(fun _=>k.hasObj (.head _)),by decide⟩ wn u (fun _ _=>(rv_fieldAddr ff36_1 u)) ?_))
 refine wg_val (i:=3) (listed':=L_ 10 3) (HasObj ac [V3 m o q,V3 s x y,V3 Y aa ab]) u (by kernel_rfl) (pk_then pk_body) (by kernel_rfl) u (by kernel_rfl) (by kernel_rfl) u (.inl fun _ h=>h.2) ⟨⟨k.hasK kr,k.hasObj m7⟩,(fun _=>k.hasObj (.head _)),by decide⟩ wn u (fun _ h=>rh_loadm1 tf34 u u h) (wg_val (i:=4) (listed':=L_ 10 4) (fun _=>True) u (by kernel_rfl) (pk_then pk_body) (by kernel_rfl) u (by kernel_rfl) (by kernel_rfl) u (.inl fun _ _=>trivial) ⟨⟨k.hasK kr,k.hasObj m7⟩,(fun _=>k.hasObj (.head _)),by decide⟩ wn u (fun _ _=>(rv_move u)) (wg_val (i:=5) (listed':=L_ 10 5) (fun _=>True) u (by kernel_rfl) (pk_then pk_body) (by kernel_rfl) u (by kernel_rfl) (by kernel_rfl) u (.inl fun _ _=>trivial) ⟨⟨k.hasK kr,k.hasObj m7⟩,(fun _=>k.hasObj (.head _)),by decide⟩ wn u (fun _ _=>(rv_add u u)) ?_))
 obtain⟨eI,du,dv⟩:=ob dq
 refine wg_sl_l (t:=tGLive) (j:=6) (listed':=L_ 10 6) u (by kernel_rfl) (pk_then pk_body) (by kernel_rfl) u (by kernel_rfl) (by kernel_rfl) u ⟨⟨k.hasK kr,k.hasObj m7⟩,(fun _=>k.hasObj (.head _)),by decide⟩ wn u underlying34 tf73 u u (SliceAt.mono ((((aK.trans W.le).trans X).trans ag).trans aC) bR) du fun eJ eK eL dw=>(wg_one (i:=7) (by kernel_rfl) u ?_)
 obtain⟨eM,dx,dy⟩:=ob dv
 refine lp underlying34 tf73 dt dw dx k.f1 fun ao ap aq eN dz aD dA ah=>(wl_nil (qe_held (listed':=L_ 10 7) u ⟨⟨ah.hasK aD,ah.hasObj m7⟩,(fun _=>ah.hasObj (.tail _ (.head _))),by decide⟩ (wg_val (i:=8) (listed':=L_ 10 8) (fun _=>True) u (by kernel_rfl) (pk_then pk_body) (by kernel_rfl) u (by kernel_rfl) (by kernel_rfl) u (.inl fun _ _=>trivial) ⟨⟨ah.hasK aD,ah.hasObj m7⟩,(fun _=>ah.hasObj (.tail _ (.head _))),by decide⟩ wn u (fun _ _=>(rv_fieldAddr ff36_1 u)) (wg_one (i:=9) (by kernel_rfl) u (ls [V3 H I J,V3 O R S,V3 ao ap aq] (V3 ao ap aq) tf34 ah.f1 fun eO aX=>(wl_nil (qe_held (listed':=L_ 10 9) u ⟨⟨aX.hasK aD,aX.hasObj m7⟩,(fun h=>nomatch h),by decide⟩ (wg_done (by kernel_rfl) (qr (lv (rv_loadmS (ds:=[V3 H I J,V3 O R S,V3 ao ap aq]) tf36 u m0 aX u u) (lw [V3 H I J,V3 O R S,V3 ao ap aq] tf36 aX.f6 fun eP bW=>?_)))))))))))
 refine lv (r_t u) (nq (wc_ret ?_))
 cases oi dy
 exact qe_ret (vs:=[_,_]) results48 ⟨⟨_,_,u,run_loadVar_at tf36 (cs:=[V3 H I J,V3 O R S,V3 ao ap aq]) (fun j c e=>by rw [Nat.zero_add,bW.mem_obj m0];exact e) (.inl ⟨u,u,u⟩)⟩,u,trivial⟩ ⟨H,I,J,O,R,S,ao,ap,aq,dz,u,bW.s,(SliceAt.mono ((((W.le.trans X).trans ag).trans aC).trans aD) de),(SliceAt.mono ((((W.le.trans X).trans ag).trans aC).trans aD) df),dA⟩

theorem ok_spec_l8Put {q0:List Int}{q1:Int}{r:(List Int)}(hS:SH w K [] w K [])(f:SliceAt tInt K A a b q0)(T:rng64 q1)(hm:M.spec_l8Put F q0 q1=some r):
  Calls prog 180 #[V3 A a b,V6 q1] w fun e w'=>∃a_1 n_2 c_3 K',e= .returned (V3 a_1 n_2 c_3)∧SH w K [] w' K' []∧SliceAt tInt K' a_1 n_2 c_3 r:=by
 rw [M.spec_l8Put] at hm
 refine ci func180 u ntmps180 (sr (lv (r_n u) (nr (lv (r_0 u) (ns ?_)))))
 obtain⟨m,U,V⟩:=ob hm
 refine wc_cutg (IW w K [] K [(0,V3 A a b),(1,V6 q1),(5,V6 m)] [] (rng64 m)) ?_ ?_
 ·refine wc_block ?_
  obtain⟨bg,W,X⟩:=ob U
  refine qw (fun (k:Int)=>IW w K [] K [(0,V3 A a b),(1,V6 q1),(5,V6 k)] [] (rng64 k)) W ⟨K,u,hS,kr,d_0⟩ ?_
  rintro k _ bh bi Y aa ⟨o,rfl,q,l,ab⟩
  refine wc_seq (wc_seq ?_)
  obtain⟨ac,ad,ae⟩:=ob Y
  refine wc_cutg (IV w K [] o [(0,V3 A a b),(1,V6 q1),(5,V6 k),(18,.bool ac)] []) ?_ ?_
  ·refine wc_region (mv u (mv u (lv (rv_len underlying71 u (f.mono l)) (lv (rv_lss u u) (mv u (bt ad (fun c s=>?_) (fun c s=>?_)))))))
   ·refine lg c (rv_move u) (lg c (rv_move u) ?_)
    obtain⟨af,ag,ah⟩:=ob s
    refine wl_indexAddr (t:=tInt) (wg u u c) u underlying71 tf3 u u (f.mono l) ag fun ai aj bj ak al=>?_
    obtain⟨rfl,bk⟩:=ak
    have am:AtK _ ai aj [V6 af]:=al
    refine lg c (rv_load1 tf3 u q (am 0 _ u)) (lg c (rv_move u) (lg c (rv_lss u u) (lv (rv_pick_t u c u) (wl_nil ?_))))
    cases oi ah
    exact qd ⟨o,u,q,kr⟩
   iterate 6 refine lu c ?_
   refine lv (p_f u c u) (wl_nil ?_)
   cases oi s
   exact qd ⟨o,u,q,kr⟩
  rintro _ bl ⟨H,rfl,I,J⟩
  refine qe_seq (wcc ae u (fun an x=>?_) (fun an x=>?_))
  ·refine wc_skip (qe_seq (wc_block (wc_region (mv u (lv (rv_add u u) (av u (nb ?_)))))))
   cases oi x
   exact qd ⟨_,u,H,u,I,(l.trans J),(w64_rng _)⟩
  refine wc_exit (qe_then_exit (qe_then_exit ?_))
  cases oi x
  cases aa _ u
  refine qe_block_eq ?_
  cases oi X
  exact qd ⟨H,u,I,(l.trans J),ab⟩
 rintro _ bm ⟨y,rfl,B,i,bn⟩
 refine qs (wc_seq ?_)
 obtain⟨ao,ap,aq⟩:=ob V
 refine wc_cutg (IV w K [] y [(0,V3 A a b),(1,V6 q1),(5,V6 m),(32,.bool ao)] []) ?_ ?_
 ·refine wc_region (mv u (mv u (lv (rv_len underlying71 u (f.mono i)) (lv (rv_lss u u) (mv u (bt ap (fun d C=>?_) (fun d C=>?_)))))))
  ·refine lg d (rv_move u) (lg d (rv_move u) ?_)
   obtain⟨ar,au,aw⟩:=ob C
   refine wl_indexAddr (t:=tInt) (wg u u d) u underlying71 tf3 u u (f.mono i) au fun ax ay bo az aA=>?_
   obtain⟨rfl,bp⟩:=az
   have aB:AtK _ ax ay [V6 ar]:=aA
   refine lg d (rv_load1 tf3 u B (aB 0 _ u)) (lg d (rv_move u) (lg d (rv_eql u u) (lv (rv_pick_t u d u) (wl_nil ?_))))
   cases oi aw
   exact qd ⟨y,u,B,kr⟩
  iterate 6 refine lu d ?_
  refine lv (p_f u d u) (wl_nil ?_)
  cases oi C
  exact qd ⟨y,u,B,kr⟩
 rintro _ bq ⟨aC,rfl,O,D⟩
 refine qe_seq (wcc aq u (fun aD G=>?_) (fun aD G=>?_))
 ·refine sr (mv u (av u (nq (rr ?_))))
  cases oi G
  exact ey results180 ⟨A,a,b,aC,u,O,(f.mono (i.trans D))⟩
 refine wc_skip (qr (b0 tInt underlying71 tf3 O fun br bs bu R aE aF=>(mv u (mv u ?_))))
 obtain⟨bv,aG,aH⟩:=ob G
 refine wl_sl_h (t:=tInt) wn u underlying71 tf3 u u (f.mono ((i.trans D).trans R)) aG fun bx bz bA aI=>?_
 obtain⟨bB,aJ,aK⟩:=ob aH
 refine lp underlying71 tf3 aE aI aJ aF fun bC bD bE bF bG aL aM aN=>(av u (nr (mv u (mv u (lb tInt (V6 q1) [V6 q1] q1 underlying71 tf3 ⟨u,T⟩ aN fun bH bI bJ S aO aP=>?_)))))
 obtain⟨bK,aQ,aR⟩:=ob aK
 refine lp underlying71 tf3 (aM.mono S) aO aQ aP.f1 fun bL bM bN bO bP aS aT aU=>(av u (nr (mv u (mv u (mv u ?_)))))
 obtain⟨bQ,aV,aW⟩:=ob aR
 refine wl_sl_l (t:=tInt) wn u underlying71 tf3 u u (SliceAt.mono (((((i.trans D).trans R).trans aL).trans S).trans aS) f) aV fun bR bS bT aX=>?_
 obtain⟨bU,aY,aZ⟩:=ob aW
 refine lp underlying71 tf3 aT aX aY aU fun ba bb bc bV bd bW be bf=>(av u (nq (wc_ret ?_)))
 cases oi aZ
 exact ey results180 ⟨ba,bb,bc,bd,u,bf.s,be⟩

theorem ok_spec_l18Gone {q0:GIndex}{q1:Int}{r:GIndex×Bool}(hS:SH w K [] w K [])(bp:SliceAt tStr K A a b q0.Conf.Stops)(bq:SliceAt tGSyn K B c d q0.Conf.Syns)(bd:SliceAt tGLive K C f i q0.Segs)(aO:rng64 q1)(hm:M.spec_l18Gone F q0 q1=some r):
  Calls prog 114 #[.agg #[V3 A a b,V3 B c d,V3 C f i],V6 q1] w fun e w'=>∃a_1 n_2 c_3 a_5 n_6 c_7 a_9 n_10 c_11 K',e= .returned (.tuple #[.agg #[V3 a_1 n_2 c_3,V3 a_5 n_6 c_7,V3 a_9 n_10 c_11],.bool r.2])∧SH w K [] w' K' [tail (V3 a_9 n_10 c_11) 73 3]∧SliceAt tStr K' a_1 n_2 c_3 r.1.Conf.Stops∧SliceAt tGSyn K' a_5 n_6 c_7 r.1.Conf.Syns∧SliceAt tGLive K' a_9 n_10 c_11 r.1.Segs:=by
 rw [M.spec_l18Gone] at hm
 refine ci func114 u ntmps114 (sr (bx u hS fun ac cG br=>?_))
 have bs:SH _ _ _ _ _ [obj ac [V3 A a b,V3 B c d,V3 C f i] 36]:=br
 refine al tf36 bs fun o cH bu=>?_
 have be:SH _ _ _ _ _ [obj o [V3 none 0 0,V3 none 0 0,V3 none 0 0] 36,_]:=bu
 refine lv (r_f u) (nr (fa ff36_0 u (lv (rv_loadmS (ds:=[V3 A a b,V3 B c d]) tf33 u m1 be u u) (lv (rv_build (cs:=#[V3 A a b,V3 B c d,V3 none 0 0]) sp36 tf36 u (by kernel_rfl)) (al tf36 be fun q cI bv=>?_)))))
 have bz:SH _ _ _ _ _ [obj q [V3 none 0 0,V3 none 0 0,V3 none 0 0] 36,_,_]:=bv
 refine lw [V3 A a b,V3 B c d,V3 none 0 0] tf36 bz fun cJ bA=>(nr (lv (r_f u) (nsr (lv (r_0 u) (nq ?_)))))
 obtain⟨aF,bB,bC⟩:=ob hm
 refine wc_cutg (fun E' w'=>∃ad ae af ag ah ai R S T aj,E'=[(4,pt o),(6,pt q),(7,.bool aF.1)]∧SH w K [] w' aj [obj o [V3 none 0 0,V3 none 0 0,V3 none 0 0] 36,obj q [V3 ad ae af,V3 ag ah ai,V3 R S T] 36,tail (V3 R S T) 73 3]∧KLe K aj∧SliceAt tStr aj ad ae af aF.2.Conf.Stops∧SliceAt tGSyn aj ag ah ai aF.2.Conf.Syns∧SliceAt tGLive aj R S T aF.2.Segs) ?_ ?_
 ·refine wc_block ?_
  obtain⟨cK,bD,bE⟩:=ob bB
  have bF:=bA.nil 73 3
  refine qw (fun (l:Bool×Int×GIndex) E' w'=>∃U V W X Y aa s x y ab,E'=[(1,V6 q1),(2,pt ac),(4,pt o),(6,pt q),(7,.bool l.1),(8,V6 l.2.1)]∧SH w K [] w' ab [obj ac [V3 A a b,V3 B c d,V3 C f i] 36,obj o [V3 none 0 0,V3 none 0 0,V3 none 0 0] 36,obj q [V3 U V W,V3 X Y aa,V3 s x y] 36,tail (V3 s x y) 73 3]∧KLe K ab∧rng64 l.2.1∧SliceAt tStr ab U V W l.2.2.Conf.Stops∧SliceAt tGSyn ab X Y aa l.2.2.Conf.Syns∧SliceAt tGLive ab s x y l.2.2.Segs) bD ⟨A,a,b,B,c,d,none,0,0,K,u,bF.f1.f2.f3,kr,d_0,bp,bq,(SliceAt.nil _ _)⟩ ?_
  rintro l _ cL cM bG bH ⟨U,V,W,X,Y,aa,s,x,y,ab,rfl,aC,aG,cN,bf,bg,bh⟩
  refine wc_seq (sr (mv u (fl ff36_1 u tf34 m0 aC u (lv (rv_len underlying34 u (bd.mono aG)) (lv (rv_lss u u) (nq (wcc bG u (fun bI aP=>?_) (fun bI aP=>?_))))))))
  ·refine wc_skip (qs (wc_block (sr (fl ff36_1 u tf34 m0 aC u (mv u ?_)))))
   obtain⟨cO,bJ,bK⟩:=ob aP
   refine li underlying34 tf73 (bd.mono aG) bJ fun bL bM cP bN bO=>?_
   obtain⟨D,G,H,I,J,O,ax,ay,az,rfl,aH,aI,aQ⟩:=bN
   have bP:AtK _ bL bM [V3 D G H,V3 I J O,V3 ax ay az]:=bO
   refine lv (rv_loadS tf73 u aC bP u) (al tf73 aC fun aD cQ bQ=>?_)
   have bR:SH _ _ _ _ _ [obj aD [V3 none 0 0,V3 none 0 0,V3 none 0 0] 73,_,_,_,_]:=bQ
   refine lw [V3 D G H,V3 I J O,V3 ax ay az] tf73 bR fun cR aR=>(ns (wc_seq ?_))
   obtain⟨bS,bT,bU⟩:=ob bK
   refine wc_cutg (IV w K [] ab [(1,V6 q1),(2,pt ac),(4,pt o),(6,pt q),(7,.bool l.1),(8,V6 l.2.1),(9,pt aD),(36,.bool bS)] [obj ac [V3 A a b,V3 B c d,V3 C f i] 36,obj o [V3 none 0 0,V3 none 0 0,V3 none 0 0] 36,obj q [V3 U V W,V3 X Y aa,V3 s x y] 36,tail (V3 s x y) 73 3,obj aD [V3 D G H,V3 I J O,V3 ax ay az] 73]) ?_ ?_
   ·refine wc_region (fa ff73_0 u (lv (rv_loadmS (ds:=[V3 D G H,V3 I J O]) tf46 u m0 aR u u) (mv u ?_)))
    obtain⟨cS,bV,bW⟩:=ob bT
    refine lk co120 (ok_spec_l12Doc F aR.enter0 aH aI aO bV) ?_
    rintro cT cU ⟨cV,cW,cX,cY,cZ,da,bX,rfl,aA,db,dc,dd⟩
    have aJ:=(aR.c0 aA).t5
    refine lv (rv_field fg77_0 tf3 u (.inl ⟨u,u⟩)) (lv (rv_neq u u) (mv u (bt bW (fun k aS=>?_) (fun k aS=>?_))))
    ·refine lg k (rv_loadmS (ds:=[V3 D G H,V3 I J O,V3 ax ay az]) tf73 u m0 aJ u u) (lg k (rv_move u) ?_)
     obtain⟨de,bY,bZ⟩:=ob aS
     refine wl_call (wg u u k) u (rt_call (vs:=[.agg #[V3 D G H,V3 I J O,V3 ax ay az],V6 q1]) co167 u) (ok_spec_l18Dead F aJ.enter0 (aH.mono aA.le) (aI.mono aA.le) (aQ.mono aA.le) aO bY) ?_
     rintro df dg ⟨ca,rfl,bi⟩
     refine⟨_,u,?_⟩
     have cb:=(aJ.c0 bi).t5
     refine lg k (rv_not u) (lv (rv_pick_t u k u) (wl_nil ?_))
     cases oi bZ
     exact qd ⟨ca,u,cb.f4.f4.f4.f4,(aA.le.trans bi.le)⟩
    refine lu k (lu k (lu k (lu k (lv (p_f u k u) (wl_nil ?_)))))
    cases oi aS
    exact qd ⟨bX,u,aJ.f4.f4.f4.f4,aA.le⟩
   rintro _ dh ⟨bj,rfl,bk,m⟩
   refine qe_seq ?_
   obtain⟨aE,cc,cd⟩:=ob bU
   refine wc_cutg (fun E' w'=>∃ak am an ao ap aq ar au aw aB,E'=[(1,V6 q1),(2,pt ac),(4,pt o),(6,pt q),(7,.bool aE.1),(8,V6 l.2.1),(9,pt aD)]∧SH w K [] w' aB [obj ac [V3 A a b,V3 B c d,V3 C f i] 36,obj o [V3 none 0 0,V3 none 0 0,V3 none 0 0] 36,obj q [V3 U V W,V3 X Y aa,V3 s x y] 36,tail (V3 s x y) 73 3,obj aD [V3 ak am an,V3 ao ap aq,V3 ar au aw] 73]∧KLe bj aB∧SliceAt tGDoc aB ak am an aE.2.Seg.Docs∧SliceAt tGEntry aB ao ap aq aE.2.Seg.Entries∧SliceAt tInt aB ar au aw aE.2.Dead) ?_ ?_
   ·refine wcc cc u (fun ce aT=>?_) (fun ce aT=>?_)
    ·refine sr (lv (r_t u) (nq (wc_region (b0 tInt underlying71 tf3 bk fun di dj dk aK cf bl=>(fl ff73_1 u tf71 m5 bl u ?_)))))
     obtain⟨dl,cg,ch⟩:=ob aT
     refine lp underlying71 tf3 cf (aQ.mono (m.trans aK)) cg bl fun dm dn dp dq dr aU cj bm=>(mv u ?_)
     obtain⟨dt,ck,cl⟩:=ob ch
     refine lk co180 (ok_spec_l8Put F bm.enter0 cj aO ck) ?_
     rintro du dv ⟨aV,aW,aX,cm,rfl,aL,cn⟩
     have cp:=(bm.c0 aL).t6
     refine fa ff73_1 u (ls [V3 D G H,V3 I J O,V3 aV aW aX] (V3 aV aW aX) tf71 cp.f5 fun dw cq=>(wl_nil ?_))
     cases oi cl
     exact qd ⟨D,G,H,I,J,O,aV,aW,aX,cm,u,cq.f5.f5.f5.f5.s,((aK.trans aU).trans aL.le),(SliceAt.mono (((m.trans aK).trans aU).trans aL.le) aH),(SliceAt.mono (((m.trans aK).trans aU).trans aL.le) aI),cn⟩
    refine wc_skip ?_
    cases oi aT
    exact qd ⟨D,G,H,I,J,O,ax,ay,az,bj,u,bk,kr,(aH.mono m),(aI.mono m),(aQ.mono m)⟩
   rintro _ dx ⟨ak,am,an,ao,ap,aq,ar,au,aw,aB,rfl,aY,aM,cr,ct,cu⟩
   refine qe_seq (wc_region (fl ff36_1 u tf34 m2 aY u (lv (rv_loadmS (ds:=[V3 ak am an,V3 ao ap aq,V3 ar au aw]) tf73 u m4 aY u u) (lb tGLive (.agg #[V3 ak am an,V3 ao ap aq,V3 ar au aw]) [V3 ak am an,V3 ao ap aq,V3 ar au aw] aE.2 underlying34 tf73 ⟨ak,am,an,ao,ap,aq,ar,au,aw,u,cr,ct,cu⟩ aY fun dy dz dA aN cv cw=>?_))))
   obtain⟨dB,cx,cy⟩:=ob cd
   refine lp underlying34 tf73 (bh.mono ((m.trans aM).trans aN)) cv cx cw.f4 fun aZ ba bb dC cz bc cA cB=>(fa ff36_1 u (ls [V3 U V W,V3 X Y aa,V3 aZ ba bb] (V3 aZ ba bb) tf34 cB.f4 fun dD cC=>(nb (qe_seq (wc_region (mv u (lv (rv_add u u) (av u (wl_nil ?_)))))))))
   cases oi cy
   exact qd ⟨_,u,U,V,W,X,Y,aa,aZ,ba,bb,cz,u,cC.f1.f1.f4.f4.s,((((aG.trans m).trans aM).trans aN).trans bc),(w64_rng _),(SliceAt.mono (((m.trans aM).trans aN).trans bc) bf),(SliceAt.mono (((m.trans aM).trans aN).trans bc) bg),cA⟩
  refine wc_exit (qe_then_exit (qe_then_exit ?_))
  cases oi aP
  cases bH _ u
  refine qe_block_eq ?_
  cases oi bE
  exact qd ⟨U,V,W,X,Y,aa,s,x,y,ab,u,aC.s,aG,bf,bg,bh⟩
 rintro _ dE ⟨ad,ae,af,ag,ah,ai,R,S,T,aj,rfl,bn,dF,cD,cE,cF⟩
 refine qr (lv (rv_loadmS (ds:=[V3 ad ae af,V3 ag ah ai,V3 R S T]) tf36 u m1 bn u u) (mv u (lw [V3 ad ae af,V3 ag ah ai,V3 R S T] tf36 bn fun dG bo=>(av u (nq (wc_ret ?_))))))
 cases oi bC
 exact qe_ret (vs:=[_,_]) results114 ⟨⟨_,_,u,run_loadVar_at tf36 (cs:=[V3 ad ae af,V3 ag ah ai,V3 R S T]) (fun j c e=>by rw [Nat.zero_add,bo.mem_obj m0];exact e) (.inl ⟨u,u,u⟩)⟩,u,trivial⟩ ⟨ad,ae,af,ag,ah,ai,R,S,T,aj,u,bo.s,cD,cE,cF⟩

theorem ok_spec_l18Full {q0:GIndex}{r:GIndex}(hS:SH w K [] w K [])(aN:SliceAt tStr K A a b q0.Conf.Stops)(aO:SliceAt tGSyn K B c d q0.Conf.Syns)(ap:SliceAt tGLive K C f i q0.Segs)(hm:M.spec_l18Full F q0=some r):
  Calls prog 115 #[.agg #[V3 A a b,V3 B c d,V3 C f i]] w fun e w'=>∃a_1 n_2 c_3 a_5 n_6 c_7 a_9 n_10 c_11 K',e= .returned (.agg #[V3 a_1 n_2 c_3,V3 a_5 n_6 c_7,V3 a_9 n_10 c_11])∧SH w K [] w' K' [tail (V3 a_9 n_10 c_11) 73 3]∧SliceAt tStr K' a_1 n_2 c_3 r.Conf.Stops∧SliceAt tGSyn K' a_5 n_6 c_7 r.Conf.Syns∧SliceAt tGLive K' a_9 n_10 c_11 r.Segs:=by
 rw [M.spec_l18Full] at hm
 refine ci func115 u ntmps115 (sr (bx u hS fun aq ck aP=>?_))
 have aQ:SH _ _ _ _ _ [obj aq [V3 A a b,V3 B c d,V3 C f i] 36]:=aP
 refine al tf36 aQ fun ad cl aR=>?_
 have aI:SH _ _ _ _ _ [obj ad [V3 none 0 0,V3 none 0 0,V3 none 0 0] 36,_]:=aR
 refine nr (fa ff36_0 u (lv (rv_loadmS (ds:=[V3 A a b,V3 B c d]) tf33 u m1 aI u u) (lv (rv_build (cs:=#[V3 A a b,V3 B c d,V3 none 0 0]) sp36 tf36 u (by kernel_rfl)) (al tf36 aI fun U cm aS=>?_))))
 have aT:SH _ _ _ _ _ [obj U [V3 none 0 0,V3 none 0 0,V3 none 0 0] 36,_,_]:=aS
 refine lw [V3 A a b,V3 B c d,V3 none 0 0] tf36 aT fun cn aU=>(nsr (lv (r_0 u) (nq ?_)))
 obtain⟨ax,aV,aW⟩:=ob hm
 refine wc_cutg (fun E' w'=>∃V W X Y aa ab y D G H,E'=[(2,pt ad),(3,pt U)]∧SH w K [] w' H [obj ad [V3 none 0 0,V3 none 0 0,V3 none 0 0] 36,obj U [V3 V W X,V3 Y aa ab,V3 y D G] 36,tail (V3 y D G) 73 3]∧KLe K H∧SliceAt tStr H V W X ax.Conf.Stops∧SliceAt tGSyn H Y aa ab ax.Conf.Syns∧SliceAt tGLive H y D G ax.Segs) ?_ ?_
 ·refine wc_block ?_
  obtain⟨cp,aX,aY⟩:=ob aV
  have aZ:=aU.nil 73 3
  refine qw (fun (ac:Int×GIndex) E' w'=>∃l m o q s x I J O R,E'=[(1,pt aq),(2,pt ad),(3,pt U),(4,V6 ac.1)]∧SH w K [] w' R [obj aq [V3 A a b,V3 B c d,V3 C f i] 36,obj ad [V3 none 0 0,V3 none 0 0,V3 none 0 0] 36,obj U [V3 l m o,V3 q s x,V3 I J O] 36,tail (V3 I J O) 73 3]∧KLe K R∧rng64 ac.1∧SliceAt tStr R l m o ac.2.Conf.Stops∧SliceAt tGSyn R q s x ac.2.Conf.Syns∧SliceAt tGLive R I J O ac.2.Segs) aX ⟨A,a,b,B,c,d,none,0,0,K,u,aZ.f1.f2.f3,kr,d_0,aN,aO,(SliceAt.nil _ _)⟩ ?_
  rintro ac _ cq cr ba bb ⟨l,m,o,q,s,x,I,J,O,R,rfl,ay,S,ct,az,aA,aB⟩
  refine wc_seq (sr (mv u (fl ff36_1 u tf34 m0 ay u (lv (rv_len underlying34 u (ap.mono S)) (lv (rv_lss u u) (nq (wcc ba u (fun bc aC=>?_) (fun bc aC=>?_))))))))
  ·refine wc_skip (qs (wc_block (wc_seq (wc_quiet mixed (by kernel_rfl) ay (kv (rv_fieldAddr ff36_1 u) (kh (rq_loadm1 tf34 u m0 u) (km u ?_)))))))
   obtain⟨cu,bd,be⟩:=ob aC
   refine ki underlying34 tf73 (ap.mono S) bd fun bf bg cv bh bi=>?_
   obtain⟨bj,bk,bl,bm,bn,bo,bp,bq,br,rfl,cw,cx,bs⟩:=bh
   have bu:AtK _ bf bg [V3 bj bk bl,V3 bm bn bo,V3 bp bq br]:=bi
   refine kv (rv_fieldAddr ff73_1 u) (kh (rq_load1 tf71 u (bu 2 _ u)) (kv (rv_len underlying71 u bs) (kv (rv_fieldAddr ff36_1 u) (kh (rq_loadm1 tf34 u m0 u) (km u ?_)))))
   obtain⟨cy,bv,bz⟩:=ob be
   refine ki underlying34 tf73 (ap.mono S) bv fun bA bB cz bC bD=>?_
   obtain⟨bE,bF,bG,bH,bI,bJ,bK,bL,bM,rfl,bN,cA,cB⟩:=bC
   have bO:AtK _ bA bB [V3 bE bF bG,V3 bH bI bJ,V3 bK bL bM]:=bD
   refine kv (rv_fieldAddr ff73_0 u) (kv (rv_fieldAddr ff46_0 u) (kh (rq_load1 tf43 u (bO 0 _ u)) (kv (rv_len underlying43 u bN) (kv (rv_lss u u) (wq_nil ?_)))))
   rintro cC ⟨aJ,aK,k⟩
   refine qe_seq (wcc bz u (fun bP aD=>?_) (fun bP aD=>?_))
   ·have ar:=aK.drew
    refine wh1 (fun w'=>Holds aJ w'∧HasObj aq [V3 A a b,V3 B c d,V3 C f i] w') (fun w'=>HasObj U [V3 l m o,V3 q s x,V3 I J O] w') 10 [(1,8),(1,9),(1,10),(8,9),(8,10),(9,10)] mixed ⟨ar.hasK kr,ar.hasObj m0⟩ (fun _=>ar.hasObj (.tail _ (.tail _ (.head _)))) (gt (rv_fieldAddr ff36_1 u) (gf (fun _ h=>rh_loadm1 tf34 u u h) (gt (rv_fieldAddr ff36_1 u) (gh (fun _ h=>rh_loadm1 tf34 u u h.2) (gt (rv_move u) ?_)))))
    obtain⟨bQ,bR,bS⟩:=ob aD
    refine gi underlying34 tf73 (ap.mono (S.trans k)) bR fun bT bU cD bV bW=>?_
    obtain⟨ae,af,ag,ah,ai,aj,ak,am,an,rfl,bX,bY,bZ⟩:=bV
    have ca:AtK _ bT bU [V3 ae af ag,V3 ah ai aj,V3 ak am an]:=bW
    refine gh (fun _ h=>rh_loadS (cs:=[V3 ae af ag,V3 ah ai aj,V3 ak am an]) tf73 u ca u h.1) (gn (lb tGLive (.agg #[V3 ae af ag,V3 ah ai aj,V3 ak am an]) [V3 ae af ag,V3 ah ai aj,V3 ak am an] bQ underlying34 tf73 ⟨ae,af,ag,ah,ai,aj,ak,am,an,u,bX,bY,bZ⟩ ar fun cE cF cG T cb au=>(wl_nil (qh ⟨au.hasK T,au.hasObj m1⟩ (fun _=>au.hasObj (.tail _ (.tail _ (.tail _ (.head _))))) (gn ?_)))))
    obtain⟨cH,cc,cd⟩:=ob bS
    refine lp underlying34 tf73 (aB.mono (k.trans T)) cb cc au.f4 fun aE aF aG cI ce ao cf aw=>(wl_nil (qh ⟨aw.hasK (T.trans ao),aw.hasObj m2⟩ (fun _=>aw.hasObj (.tail _ (.tail _ (.tail _ (.tail _ (.head _)))))) (gt (rv_fieldAddr ff36_1 u) (gn (ls [V3 l m o,V3 q s x,V3 aE aF aG] (V3 aE aF aG) tf34 aw.f4 fun cJ aH=>(wl_nil (qh ⟨aH.hasK (T.trans ao),aH.hasObj m3⟩ (fun h=>nomatch h) (gd' (qe_block (qe_seq (wc_region ?_)))))))))))
    refine mv u (lv (rv_add u u) (av u (wl_nil ?_)))
    cases oi cd
    exact qd ⟨_,u,l,m,o,q,s,x,aE,aF,aG,ce,u,aH.f1.f1.f4.f4.s,(((S.trans k).trans T).trans ao),(w64_rng _),(az.mono ((k.trans T).trans ao)),(aA.mono ((k.trans T).trans ao)),cf⟩
   refine wc_skip (qe_block (qe_seq (wc_region (mv u (lv (rv_add u u) (av u (wl_nil ?_)))))))
   cases oi aD
   exact qd ⟨_,u,l,m,o,q,s,x,I,J,O,aJ,u,aK,(S.trans k),(w64_rng _),(az.mono k),(aA.mono k),(aB.mono k)⟩
  refine wc_exit (qe_then_exit (qe_then_exit ?_))
  cases oi aC
  cases bb _ u
  refine qe_block_eq ?_
  cases oi aY
  exact qd ⟨l,m,o,q,s,x,I,J,O,R,u,ay.s,S,az,aA,aB⟩
 rintro _ cK ⟨V,W,X,Y,aa,ab,y,D,G,H,rfl,aL,cL,cg,ch,cj⟩
 refine qr (lv (rv_loadmS (ds:=[V3 V W X,V3 Y aa ab,V3 y D G]) tf36 u m1 aL u u) (lw [V3 V W X,V3 Y aa ab,V3 y D G] tf36 aL fun cM aM=>(nq (wc_ret ?_))))
 cases oi aW
 exact ez results115 tf36 aM m0 ⟨V,W,X,Y,aa,ab,y,D,G,H,u,aM.s,cg,ch,cj⟩

theorem ok_spec_IndexDrop {q0:GIndex}{q1:Int}{r:GIndex×Bool}(hS:SH w K [] w K [])(R:SliceAt tStr K A a b q0.Conf.Stops)(S:SliceAt tGSyn K B c d q0.Conf.Syns)(T:SliceAt tGLive K C f i q0.Segs)(ai:rng64 q1)(hm:M.spec_IndexDrop F q0 q1=some r):
  Calls prog 52 #[.agg #[V3 A a b,V3 B c d,V3 C f i],V6 q1] w fun e w'=>∃a_1 n_2 c_3 a_5 n_6 c_7 a_9 n_10 c_11 K',e= .returned (.tuple #[.agg #[V3 a_1 n_2 c_3,V3 a_5 n_6 c_7,V3 a_9 n_10 c_11],.bool r.2])∧SH w K [] w' K' [tail (V3 a_9 n_10 c_11) 73 3]∧SliceAt tStr K' a_1 n_2 c_3 r.1.Conf.Stops∧SliceAt tGSyn K' a_5 n_6 c_7 r.1.Conf.Syns∧SliceAt tGLive K' a_9 n_10 c_11 r.1.Segs:=by
 rw [M.spec_IndexDrop] at hm
 refine ci func52 u ntmps52 (sr (bx u hS fun aj aW ak=>?_))
 have am:SH _ _ _ _ _ [obj aj [V3 A a b,V3 B c d,V3 C f i] 36]:=ak
 refine al tf36 am fun an aX ao=>?_
 have m:SH _ _ _ _ _ [obj an [V3 none 0 0,V3 none 0 0,V3 none 0 0] 36,_]:=ao
 refine lv (r_f u) (nsr (lv (rv_loadmS (ds:=[V3 A a b,V3 B c d,V3 C f i]) tf36 u m1 m u u) ?_))
 obtain⟨aY,ap,aq⟩:=ob hm
 refine lk co57 (ok_spec_l18Ok F m.enter0 R S T ap) ?_
 rintro aZ ba ⟨ar,rfl,k⟩
 have l:=(m.c0 k).t2
 refine lv (rv_not u) (nq (wcc aq u (fun au o=>?_) (fun au o=>?_)))
 ·refine sr (lv (rv_build (cs:=#[V3 none 0 0,V3 none 0 0,V3 none 0 0]) sp36 tf36 u (by kernel_rfl)) (lw [V3 none 0 0,V3 none 0 0,V3 none 0 0] tf36 l fun bb U=>(lv (r_f u) (nq (rr ?_)))))
  cases oi o
  have aw:=U.nil 73 3
  exact qe_ret (vs:=[_,_]) results52 ⟨⟨_,_,u,run_loadVar_at tf36 (cs:=[V3 none 0 0,V3 none 0 0,V3 none 0 0]) (fun j c e=>by rw [Nat.zero_add,U.mem_obj m0];exact e) (.inl ⟨u,u,u⟩)⟩,u,trivial⟩ ⟨none,0,0,none,0,0,none,0,0,ar,u,aw.s,(SliceAt.nil _ _),(SliceAt.nil _ _),(SliceAt.nil _ _)⟩
 refine wc_skip (qr (lv (rv_loadmS (ds:=[V3 A a b,V3 B c d,V3 C f i]) tf36 u m1 l u u) ?_))
 obtain⟨bc,ax,ay⟩:=ob o
 refine lk co110 (ok_spec_l18Copy F l.enter0 (R.mono k.le) (S.mono k.le) (T.mono k.le) ax) ?_
 rintro bd be ⟨bf,bg,bh,bi,bj,bk,bl,bm,bn,cs54,bo,rfl,az,aA,aB,hrow55,hm56⟩
 have aC:=(l.c0 az).t3
 obtain⟨bp,V,aD,W⟩:=SH.freezeI aC hrow55 hm56
 refine mv u ?_
 obtain⟨bq,aE,aF⟩:=ob ay
 refine lk co114 (ok_spec_l18Gone F W.enter0 (aA.mono V) (aB.mono V) aD ai aE) ?_
 rintro br bs ⟨X,Y,aa,ab,ac,ad,ae,af,ag,bu,rfl,aG,aH,aI,aJ⟩
 have aK:=(W.c0 aG).t4
 refine mv u (lv (rv_extract u u) (lv (rv_extract u u) (al tf36 aK fun aL bv aM=>?_)))
 have aN:SH _ _ _ _ _ [obj aL [V3 none 0 0,V3 none 0 0,V3 none 0 0] 36,_,_,_,_]:=aM
 refine lw [V3 X Y aa,V3 ab ac ad,V3 ae af ag] tf36 aN fun bz q=>(av u (nr (lv (rv_loadmS (ds:=[V3 X Y aa,V3 ab ac ad,V3 ae af ag]) tf36 u m0 q u u) ?_)))
 obtain⟨bA,aO,aP⟩:=ob aF
 refine lk co115 (ok_spec_l18Full F q.enter0 aH aI aJ aO) ?_
 rintro bB bC ⟨s,x,y,D,G,H,I,J,O,aQ,rfl,aR,aS,aT,aU⟩
 have aV:=(q.c0 aR).t6
 refine mv u (lw [V3 s x y,V3 D G H,V3 I J O] tf36 aV.f4 fun bD ah=>(av u (nq (wc_ret ?_))))
 cases oi aP
 exact qe_ret (vs:=[_,_]) results52 ⟨⟨_,_,u,run_loadVar_at tf36 (cs:=[V3 s x y,V3 D G H,V3 I J O]) (fun j c e=>by rw [Nat.zero_add,ah.mem_obj m0];exact e) (.inl ⟨u,u,u⟩)⟩,u,trivial⟩ ⟨s,x,y,D,G,H,I,J,O,aQ,u,ah.s,aS,aT,aU⟩

theorem ok_spec_IndexAdd {q0:GIndex}{q1:List GDoc}{r:GIndex×Bool}(hS:SH w K [] w K [])(aG:SliceAt tStr K A a b q0.Conf.Stops)(aH:SliceAt tGSyn K B c d q0.Conf.Syns)(aR:SliceAt tGLive K C f i q0.Segs)(aI:SliceAt tGDoc K D k l q1)(hm:M.spec_IndexAdd F q0 q1=some r):
  Calls prog 55 #[.agg #[V3 A a b,V3 B c d,V3 C f i],V3 D k l] w fun e w'=>∃a_1 n_2 c_3 a_5 n_6 c_7 a_9 n_10 c_11 K',e= .returned (.tuple #[.agg #[V3 a_1 n_2 c_3,V3 a_5 n_6 c_7,V3 a_9 n_10 c_11],.bool r.2])∧SH w K [] w' K' [tail (V3 a_9 n_10 c_11) 73 3]∧SliceAt tStr K' a_1 n_2 c_3 r.1.Conf.Stops∧SliceAt tGSyn K' a_5 n_6 c_7 r.1.Conf.Syns∧SliceAt tGLive K' a_9 n_10 c_11 r.1.Segs:=by
 rw [M.spec_IndexAdd] at hm
 refine ci func55 u ntmps55 (sr (bx u hS fun y fh db=>?_))
 have dc:SH _ _ _ _ _ [obj y [V3 A a b,V3 B c d,V3 C f i] 36]:=db
 refine al tf36 dc fun H fi dd=>?_
 have bl:SH _ _ _ _ _ [obj H [V3 none 0 0,V3 none 0 0,V3 none 0 0] 36,_]:=dd
 refine lv (r_f u) (nsr (lv (rv_loadmS (ds:=[V3 A a b,V3 B c d,V3 C f i]) tf36 u m1 bl u u) ?_))
 obtain⟨fj,de,df⟩:=ob hm
 refine lk co57 (ok_spec_l18Ok F bl.enter0 aG aH aR de) ?_
 rintro fk fm ⟨cb,rfl,m⟩
 have bm:=(bl.c0 m).t2
 refine lv (rv_not u) (nq (wcc df u (fun dg bn=>?_) (fun dg bn=>?_)))
 ·refine sr (lv (rv_build (cs:=#[V3 none 0 0,V3 none 0 0,V3 none 0 0]) sp36 tf36 u (by kernel_rfl)) (lw [V3 none 0 0,V3 none 0 0,V3 none 0 0] tf36 bm fun fn cc=>(lv (r_f u) (nq (rr ?_)))))
  cases oi bn
  have dh:=cc.nil 73 3
  exact qe_ret (vs:=[_,_]) results55 ⟨⟨_,_,u,run_loadVar_at tf36 (cs:=[V3 none 0 0,V3 none 0 0,V3 none 0 0]) (fun j c e=>by rw [Nat.zero_add,cc.mem_obj m0];exact e) (.inl ⟨u,u,u⟩)⟩,u,trivial⟩ ⟨none,0,0,none,0,0,none,0,0,cb,u,dh.s,(SliceAt.nil _ _),(SliceAt.nil _ _),(SliceAt.nil _ _)⟩
 refine wc_skip (qs (wc_seq ?_))
 obtain⟨di,dj,dk⟩:=ob bn
 refine wc_cutg (IV w K [] cb [(1,V3 D k l),(2,pt y),(4,pt H),(21,.bool di)] [obj y [V3 A a b,V3 B c d,V3 C f i] 36,obj H [V3 none 0 0,V3 none 0 0,V3 none 0 0] 36]) ?_ ?_
 ·refine wc_region (mv u ?_)
  obtain⟨fo,dl,dm⟩:=ob dj
  refine lk co67 (ok_spec_l6Docs F bm.enter0 (aI.mono m.le) dl) ?_
  rintro fp fq ⟨cd,rfl,aS⟩
  have ce:=(bm.c0 aS).t2
  refine lv (rv_not u) (mv u (bt dm (fun I bo=>?_) (fun I bo=>?_)))
  ·refine lu I (lu I (lu I (lv (p_t u I u) (wl_nil ?_))))
   cases oi bo
   exact qd ⟨cd,u,ce.f1,aS.le⟩
  refine lg I (rv_move u) (lg I (rv_len underlying43 u (aI.mono (m.le.trans aS.le))) (lg I (rv_eql u u) (lv (rv_pick_f u I u) (wl_nil ?_))))
  cases oi bo
  exact qd ⟨cd,u,ce.f1,aS.le⟩
 rintro _ fr ⟨fs,rfl,ax,o⟩
 refine qe_seq (wcc dk u (fun dn bp=>?_) (fun dn bp=>?_))
 ·refine sr (lv (rv_loadmS (ds:=[V3 A a b,V3 B c d,V3 C f i]) tf36 u m0 ax u u) ?_)
  obtain⟨ft,dp,dq⟩:=ob bp
  refine lk co110 (ok_spec_l18Copy F ax.enter0 (aG.mono (m.le.trans o)) (aH.mono (m.le.trans o)) (aR.mono (m.le.trans o)) dp) ?_
  rintro fu fv ⟨bq,br,bs,bu,bv,bz,bA,bB,bC,cs78,fw,rfl,dr,dt,du,hrow79,hm80⟩
  have dv:=(ax.c0 dr).t3
  obtain⟨dw,cf,dx,dy⟩:=SH.freezeI dv hrow79 hm80
  refine lw [V3 bq br bs,V3 bu bv bz,V3 bA bB bC] tf36 dy.f2 fun fx cg=>(lv (r_f u) (nq (rr ?_)))
  cases oi dq
  exact qe_ret (vs:=[_,_]) results55 ⟨⟨_,_,u,run_loadVar_at tf36 (cs:=[V3 bq br bs,V3 bu bv bz,V3 bA bB bC]) (fun j c e=>by rw [Nat.zero_add,cg.mem_obj m0];exact e) (.inl ⟨u,u,u⟩)⟩,u,trivial⟩ ⟨bq,br,bs,bu,bv,bz,bA,bB,bC,dw,u,cg.s,(dt.mono cf),(du.mono cf),dx⟩
 refine wc_skip (qr (lv (rv_loadmS (ds:=[V3 A a b,V3 B c d,V3 C f i]) tf36 u m0 ax u u) ?_))
 obtain⟨fy,dz,dA⟩:=ob bp
 refine lk co110 (ok_spec_l18Copy F ax.enter0 (aG.mono (m.le.trans o)) (aH.mono (m.le.trans o)) (aR.mono (m.le.trans o)) dz) ?_
 rintro fz fA ⟨ch,cj,ck,cl,cm,cn,cp,cq,cr,cs108,fB,rfl,J,dB,dC,hrow109,hm110⟩
 have dD:=(ax.c0 J).t3
 obtain⟨bD,G,dE,dF⟩:=SH.freezeI dD hrow109 hm110
 refine al tf36 dF fun O fC dG=>?_
 have dH:SH _ _ _ _ _ [obj O [V3 none 0 0,V3 none 0 0,V3 none 0 0] 36,_,_,_]:=dG
 refine lw [V3 ch cj ck,V3 cl cm cn,V3 cp cq cr] tf36 dH fun fD dI=>(nsr (lv (r_0 u) (nq ?_)))
 obtain⟨bE,dJ,dK⟩:=ob dA
 refine wc_cutg (fun E' w'=>∃aT aU aV aW aX aY aJ aK aL ay,E'=[(1,V3 D k l),(2,pt y),(4,pt H),(6,pt O)]∧SH w K [] w' ay [obj y [V3 A a b,V3 B c d,V3 C f i] 36,obj H [V3 none 0 0,V3 none 0 0,V3 none 0 0] 36,obj O [V3 aT aU aV,V3 aW aX aY,V3 aJ aK aL] 36,tail (V3 aJ aK aL) 73 3]∧KLe bD ay∧SliceAt tStr ay aT aU aV bE.Conf.Stops∧SliceAt tGSyn ay aW aX aY bE.Conf.Syns∧SliceAt tGLive ay aJ aK aL bE.Segs) ?_ ?_
 ·refine wc_block ?_
  obtain⟨fE,dL,dM⟩:=ob dJ
  refine qw (fun (ad:Int×GIndex) E' w'=>∃ae af ag ah ai aj R S T U,E'=[(1,V3 D k l),(2,pt y),(4,pt H),(6,pt O),(7,V6 ad.1)]∧SH w K [] w' U [obj y [V3 A a b,V3 B c d,V3 C f i] 36,obj H [V3 none 0 0,V3 none 0 0,V3 none 0 0] 36,obj O [V3 ae af ag,V3 ah ai aj,V3 R S T] 36,tail (V3 R S T) 73 3]∧KLe bD U∧rng64 ad.1∧SliceAt tStr U ae af ag ad.2.Conf.Stops∧SliceAt tGSyn U ah ai aj ad.2.Conf.Syns∧SliceAt tGLive U R S T ad.2.Segs) dL ⟨ch,cj,ck,cl,cm,cn,cp,cq,cr,bD,u,dI.f1.f1.f3.f3,kr,d_0,(dB.mono G),(dC.mono G),dE⟩ ?_
  rintro ad _ fF fG dN dO ⟨ae,af,ag,ah,ai,aj,R,S,T,U,rfl,ct,aZ,fH,bF,bG,bH⟩
  refine wc_seq (sr (mv u (mv u (lv (rv_len underlying43 u (SliceAt.mono ((((m.le.trans o).trans J.le).trans G).trans aZ) aI)) (lv (rv_lss u u) (nq (wcc dN u (fun dP bI=>?_) (fun dP bI=>?_))))))))
  ·refine wc_skip (qs (wc_block (wc_seq ?_)))
   obtain⟨bJ,dQ,dR⟩:=ob bI
   refine wc_cutg (fun E' w'=>∃bK az aA aB aC aD aE ak am an ao,E'=[(1,V3 D k l),(2,pt y),(4,pt H),(6,pt O),(7,V6 ad.1),(8,pt bK)]∧SH w K [] w' ao [obj bK [V3 az aA aB,V3 aC aD aE,V3 ak am an] 36,tail (V3 ak am an) 73 3,obj y [V3 A a b,V3 B c d,V3 C f i] 36,obj H [V3 none 0 0,V3 none 0 0,V3 none 0 0] 36,obj O [V3 ae af ag,V3 ah ai aj,V3 R S T] 36,tail (V3 R S T) 73 3]∧KLe U ao∧SliceAt tStr ao az aA aB bJ.Conf.Stops∧SliceAt tGSyn ao aC aD aE bJ.Conf.Syns∧SliceAt tGLive ao ak am an bJ.Segs) ?_ ?_
   ·obtain⟨dS,dT,dU⟩:=ob dQ
    obtain⟨fI,cu,cv⟩:=ob dU
    have aM:=ct.drew
    refine j_0 (fun w'=>Holds U w'∧HasObj O [V3 ae af ag,V3 ah ai aj,V3 R S T] w') 13 [] mixed ⟨aM.hasK kr,aM.hasObj m2⟩ (jh 0 u (fun _ h=>rh_loadmS (ds:=[V3 ae af ag,V3 ah ai aj,V3 R S T]) tf36 u u u h.2) (jv 1 u (rv_move u) (jv 2 u (rv_move u) (ji 3 u underlying43 tf77 (SliceAt.mono ((((m.le.trans o).trans J.le).trans G).trans aZ) aI) dT fun dV dW fJ dX dY=>?_))))
    obtain⟨dZ,ea,eb,ec,ed,ee,rfl,cw,fK,fL⟩:=dX
    have ef:AtK _ dV dW [V6 dS.Id,V3 dZ ea eb,V3 ec ed ee]:=dY
    refine jv 4 u (rv_fieldAddr ff77_0 u) (jh 5 u (fun _ h=>rh_load1 tf3 u (ef 0 _ u) h.1) (j2 6 10 u u ?_ ?_))
    ·refine lk co114 (ok_spec_l18Gone F aM.enter0 bF bG bH cw cu) ?_
     rintro fM fN ⟨cx,cy,cz,cA,cB,cC,cD,cE,cF,eg,rfl,aN,eh,ei,ej⟩
     have bL:=(aM.c0 aN).t5
     refine j_o ⟨bL.hasK aN.le,bL.hasObj m3⟩ (jv 7 u (rv_move u) (jv 8 u (rv_extract u u) (jv 9 u (rv_extract u u) (j1 10 u (al tf36 bL fun cG fO ek=>?_)))))
     have bM:SH _ _ _ _ _ [obj cG [V3 none 0 0,V3 none 0 0,V3 none 0 0] 36,_,_,_,_,_]:=ek
     refine j_o ⟨bM.hasK aN.le,bM.hasObj m4⟩ (j1 11 u (lw [V3 cx cy cz,V3 cA cB cC,V3 cD cE cF] tf36 bM fun fP bN=>(j_o ⟨bN.hasK aN.le,bN.hasObj m4⟩ (jv 12 u (rv_assign u) (jd ?_)))))
     cases oi cv
     exact qd ⟨cG,cx,cy,cz,cA,cB,cC,cD,cE,cF,eg,u,bN,aN.le,eh,ei,ej⟩
    refine al tf36 aM fun cH fQ el=>?_
    have ba:SH _ _ _ _ _ [obj cH [V3 none 0 0,V3 none 0 0,V3 none 0 0] 36,_,_,_,_]:=el
    refine j_o ⟨ba.hasK kr,ba.hasObj m3⟩ (j1 6 u (lk co114 (ok_spec_l18Gone F ba.enter0 bF bG bH cw cu) ?_))
    rintro fR fS ⟨cI,cJ,cK,cL,cM,cN,cO,cP,cQ,em,rfl,bb,en,eo,ep⟩
    have bO:=(ba.c0 bb).t6
    refine j_o ⟨bO.hasK bb.le,bO.hasObj m4⟩ (jv 7 u (rv_move u) (jv 8 u (rv_extract u u) (jv 9 u (rv_extract u u) (j1 11 u (lw [V3 cI cJ cK,V3 cL cM cN,V3 cO cP cQ] tf36 bO.f1 fun fT bP=>(j_o ⟨bP.hasK bb.le,bP.hasObj m4⟩ (jv 12 u (rv_assign u) (jd ?_))))))))
    cases oi cv
    exact qd ⟨cH,cI,cJ,cK,cL,cM,cN,cO,cP,cQ,em,u,bP,bb.le,en,eo,ep⟩
   rintro _ fU ⟨bK,az,aA,aB,aC,aD,aE,ak,am,an,ao,rfl,cR,eq,es,et,eu⟩
   refine qe_seq (wc_region (lv (rv_loadmS (ds:=[V3 az aA aB,V3 aC aD aE,V3 ak am an]) tf36 u m0 cR u u) (lw [V3 az aA aB,V3 aC aD aE,V3 ak am an] tf36 cR.f4 fun fV ev=>(nb (qe_seq (wc_region (mv u (lv (rv_add u u) (av u ?_)))))))))
   refine wl_nil ?_
   cases oi dR
   exact qd ⟨_,u,az,aA,aB,aC,aD,aE,ak,am,an,ao,u,ev.f2.f1.f4.f4.s,(aZ.trans eq),(w64_rng _),es,et,eu⟩
  refine wc_exit (qe_then_exit (qe_then_exit ?_))
  cases oi bI
  cases dO _ u
  refine qe_block_eq ?_
  cases oi dM
  exact qd ⟨ae,af,ag,ah,ai,aj,R,S,T,U,u,ct,aZ,bF,bG,bH⟩
 rintro _ fW ⟨aT,aU,aV,aW,aX,aY,aJ,aK,aL,ay,rfl,bQ,aF,ew,ex,eA⟩
 refine qr (lv (rv_loadmS (ds:=[V3 aT aU aV,V3 aW aX aY,V3 aJ aK aL]) tf36 u m2 bQ u u) ?_)
 obtain⟨eB,eC,eD⟩:=ob dK
 refine lk co115 (ok_spec_l18Full F bQ.enter0 ew ex eA eC) ?_
 rintro fX fY ⟨W,X,Y,aa,ab,ac,cS,cT,cU,eE,rfl,ap,cV,cW,eF⟩
 have eG:=(bQ.c0 ap).t5
 refine lw [V3 W X Y,V3 aa ab ac,V3 cS cT cU] tf36 eG.f3 fun fZ eH=>(ns ?_)
 have aO:=eH.drew
 refine wh1 (fun w'=>Holds eE w'∧HasObj y [V3 A a b,V3 B c d,V3 C f i] w') (fun w'=>HasObj O [V3 W X Y,V3 aa ab ac,V3 cS cT cU] w') 10 [(1,8),(1,9),(1,10),(8,9),(8,10),(9,10)] mixed ⟨aO.hasK kr,aO.hasObj m2⟩ (fun _=>aO.hasObj (.head _)) (gt (rv_fieldAddr ff36_1 u) (gf (fun _ h=>rh_loadm1 tf34 u u h) (gt (rv_fieldAddr ff36_0 u) (gh (fun _ h=>rh_loadmS (ds:=[V3 A a b,V3 B c d]) tf33 u u u h.2) (gt (rv_move u) (gn ?_))))))
 obtain⟨eI,eJ,eK⟩:=ob eD
 refine lk co68 (ok_spec_l7Of F aO.enter0 (SliceAt.mono (((((m.le.trans o).trans J.le).trans G).trans aF).trans ap.le) aG) (SliceAt.mono (((((m.le.trans o).trans J.le).trans G).trans aF).trans ap.le) aH) (SliceAt.mono (((((m.le.trans o).trans J.le).trans G).trans aF).trans ap.le) aI) eJ) ?_
 rintro ga gb ⟨bc,bd,be,bf,bg,bh,cs347,gc,rfl,q,eL,hrow348,hm349⟩
 have eM:=(aO.c0 q).t7
 obtain⟨gd,s,eN,bi⟩:=SH.freezeI eM.f1 hrow348 hm349
 refine wl_nil (qh ⟨bi.hasK (q.le.trans s),bi.hasObj m4⟩ (fun _=>bi.hasObj (.tail _ (.tail _ (.head _)))) (gt (rv_build (cs:=#[V3 bc bd be,V3 bf bg bh,V3 none 0 0]) sp73 tf73 u (by kernel_rfl)) (gn (lb tGLive (.agg #[V3 bc bd be,V3 bf bg bh,V3 none 0 0]) [V3 bc bd be,V3 bf bg bh,V3 none 0 0] (GLive.mk eI ([]:List Int)) underlying34 tf73 ⟨bc,bd,be,bf,bg,bh,none,0,0,u,(eL.mono s),eN,(SliceAt.nil _ _)⟩ bi fun ge gg gj x eO bj=>(wl_nil (qh ⟨bj.hasK ((q.le.trans s).trans x),bj.hasObj m5⟩ (fun _=>bj.hasObj (.tail _ (.tail _ (.tail _ (.head _))))) (gn ?_)))))))
 obtain⟨eP,eQ,eR⟩:=ob eK
 refine lp underlying34 tf73 (eF.mono ((q.le.trans s).trans x)) eO eQ bj.f4 fun aq ar au gk gl V cX bk=>(wl_nil (qh ⟨bk.hasK (((q.le.trans s).trans x).trans V),bk.hasObj m5⟩ (fun _=>bk.hasObj (.tail _ (.tail _ (.tail _ (.tail _ (.head _)))))) (gt (rv_fieldAddr ff36_1 u) (gn (ls [V3 W X Y,V3 aa ab ac,V3 aq ar au] (V3 aq ar au) tf34 bk.f4 fun gm aP=>(wl_nil (qh ⟨aP.hasK (((q.le.trans s).trans x).trans V),aP.hasObj m5⟩ (fun h=>nomatch h) (gd' (qs (sr (lv (rv_loadmS (ds:=[V3 W X Y,V3 aa ab ac,V3 aq ar au]) tf36 u m0 aP u u) ?_)))))))))))
 obtain⟨go,eS,eT⟩:=ob eR
 refine lk co57 ((ok_spec_l18Ok F (q0:=(GIndex.mk eB.Conf eP))) aP.enter0 (SliceAt.mono (((q.le.trans s).trans x).trans V) cV) (SliceAt.mono (((q.le.trans s).trans x).trans V) cW) cX eS) ?_
 rintro gp gq ⟨eU,rfl,aw⟩
 have aQ:=(aP.c0 aw).t8
 refine lv (rv_not u) (nq (wcc eT u (fun eV bR=>?_) (fun eV bR=>?_)))
 ·refine sr (lv (rv_loadmS (ds:=[V3 A a b,V3 B c d,V3 C f i]) tf36 u m5 aQ u u) ?_)
  obtain⟨gr,eW,eX⟩:=ob bR
  refine lk co110 (ok_spec_l18Copy F aQ.enter0 (SliceAt.mono ((((((((((m.le.trans o).trans J.le).trans G).trans aF).trans ap.le).trans q.le).trans s).trans x).trans V).trans aw.le) aG) (SliceAt.mono ((((((((((m.le.trans o).trans J.le).trans G).trans aF).trans ap.le).trans q.le).trans s).trans x).trans V).trans aw.le) aH) (SliceAt.mono ((((((((((m.le.trans o).trans J.le).trans G).trans aF).trans ap.le).trans q.le).trans s).trans x).trans V).trans aw.le) aR) eW) ?_
  rintro gv gw ⟨bS,bT,bU,bV,bW,bX,bY,bZ,ca,cs405,gx,rfl,eY,eZ,fb,hrow406,hm407⟩
  have fc:=(aQ.c0 eY).t9
  obtain⟨fd,cY,fe,fg⟩:=SH.freezeI fc hrow406 hm407
  refine lw [V3 bS bT bU,V3 bV bW bX,V3 bY bZ ca] tf36 fg.f7 fun gy cZ=>(lv (r_f u) (nq (rr ?_)))
  cases oi eX
  exact qe_ret (vs:=[_,_]) results55 ⟨⟨_,_,u,run_loadVar_at tf36 (cs:=[V3 bS bT bU,V3 bV bW bX,V3 bY bZ ca]) (fun j c e=>by rw [Nat.zero_add,cZ.mem_obj m0];exact e) (.inl ⟨u,u,u⟩)⟩,u,trivial⟩ ⟨bS,bT,bU,bV,bW,bX,bY,bZ,ca,fd,u,cZ.s,(eZ.mono cY),(fb.mono cY),fe⟩
 refine wc_skip (qr (lv (rv_loadmS (ds:=[V3 W X Y,V3 aa ab ac,V3 aq ar au]) tf36 u m0 aQ u u) (lw [V3 W X Y,V3 aa ab ac,V3 aq ar au] tf36 aQ.f6 fun gz da=>(lv (r_t u) (nq (wc_ret ?_))))))
 cases oi bR
 exact qe_ret (vs:=[_,_]) results55 ⟨⟨_,_,u,run_loadVar_at tf36 (cs:=[V3 W X Y,V3 aa ab ac,V3 aq ar au]) (fun j c e=>by rw [Nat.zero_add,da.mem_obj m0];exact e) (.inl ⟨u,u,u⟩)⟩,u,trivial⟩ ⟨W,X,Y,aa,ab,ac,aq,ar,au,eU,u,da.s,(SliceAt.mono ((((q.le.trans s).trans x).trans V).trans aw.le) cV),(SliceAt.mono ((((q.le.trans s).trans x).trans V).trans aw.le) cW),(cX.mono aw.le)⟩

theorem ok_spec_l30Rd_of {q0:GL30Rd}{q1:List Str}{r:Str×GL30Rd}(hS:SH w K Z w K [obj g1 [V3 A a b,V6 q0.p_] 208])(l:SliceAt tU8 K A a b q0.b_)(m:rng64 q0.p_)(f:SliceAt tStr K B c d q1)(hm:M.spec_l30Rd_of F q0 q1=some r):
  Calls prog 257 #[.pointer (some ⟨g1,0,none⟩),V3 B c d] w fun e w'=>∃a_2 n_3 c_4 K',e= .returned (sv r.1)∧SH w K Z w' K' [obj g1 [V3 a_2 n_3 c_4,V6 r.2.p_] 208]∧r.1.length≤maxLen∧SliceAt tU8 K' a_2 n_3 c_4 r.2.b_∧rng64 r.2.p_:=by
 rw [M.spec_l30Rd_of] at hm
 refine ci func257 u ntmps257 (sr (lv (r_s u) (nr (mv u (mv u (mv u (lv (rv_len underlying22 u f) ?_)))))))
 obtain⟨W,o,q⟩:=ob hm
 refine lk co106 (ok_spec_l30Rd_pick F hS.e1 l m f.rn o) ?_
 rintro X Y ⟨s,x,y,C,rfl,i,aa,D,G⟩
 have k:=(hS.c1 i).t1
 obtain⟨H,I,J⟩:=ob q
 refine li underlying22 tf9 (f.mono i.le) I fun O R ab S T=>?_
 obtain⟨rfl,U⟩:=S
 have V:AtK _ O R [sv H]:=T
 refine lv (rv_load1 tf9 u k (V 0 _ u)) (av u (nq (wc_ret ?_)))
 cases oi J
 exact ey results257 ⟨s,x,y,C,u,k,U,D,G⟩

theorem ok_spec_l30Raw {q0:GL30Rd}{r:Str×GL30Rd}(hS:SH w K Z w K [obj g1 [V3 A a b,V6 q0.p_] 208])(d:SliceAt tU8 K A a b q0.b_)(f:rng64 q0.p_)(hm:M.spec_l30Raw F q0=some r):
  Calls prog 267 #[.pointer (some ⟨g1,0,none⟩)] w fun e w'=>∃a_2 n_3 c_4 K',e= .returned (sv r.1)∧SH w K Z w' K' [obj g1 [V3 a_2 n_3 c_4,V6 r.2.p_] 208]∧r.1.length≤maxLen∧SliceAt tU8 K' a_2 n_3 c_4 r.2.b_∧rng64 r.2.p_:=by
 rw [M.spec_l30Raw] at hm
 refine ci func267 u ntmps267 (sr (lv (r_s u) (nr (mv u (bw [[99,97,116],[67,97,116,115],[100,111,103],[100,111,103,115],[114,117,110],[82,85,78,78,73,78,71],[116,104,101],[114,101,100],[98,105,103],[110,101,119,32,121,111,114,107],[78,101,119,32,32,89,111,114,107],[110,121],[102,111,120],[112,97,115,115,101,100],[120,49],[97,118,101,114,121,118,101,114,121,108,111,110,103,119,111,114,100]] underlying22 tf9 hS fun I J O i k l=>?_)))))
 obtain⟨R,m,o⟩:=ob hm
 have c:=l.f1
 refine lk co257 (ok_spec_l30Rd_of F c.e1 (d.mono i) f k m) ?_
 rintro S T ⟨q,s,x,y,rfl,B,C,D,G⟩
 have H:=(c.c1 B).t2
 refine av u (nq (wc_ret ?_))
 cases oi o
 exact ey results267 ⟨q,s,x,y,u,H.s,C,D,G⟩

theorem ok_spec_l30Text {q0:GL30Rd}{r:Str×GL30Rd}(hS:SH w K Z w K [obj g1 [V3 A a b,V6 q0.p_] 208])(S:SliceAt tU8 K A a b q0.b_)(T:rng64 q0.p_)(hm:M.spec_l30Text F q0=some r):
  Calls prog 256 #[.pointer (some ⟨g1,0,none⟩)] w fun e w'=>∃a_2 n_3 c_4 K',e= .returned (sv r.1)∧SH w K Z w' K' [obj g1 [V3 a_2 n_3 c_4,V6 r.2.p_] 208]∧r.1.length≤maxLen∧SliceAt tU8 K' a_2 n_3 c_4 r.2.b_∧rng64 r.2.p_:=by
 rw [M.spec_l30Text] at hm
 refine ci func256 u ntmps256 (sr (lv (r_s u) (nr (lv (r_s u) (nsr (mv u ?_))))))
 obtain⟨r7,U,V⟩:=ob hm
 refine lk co106 (ok_spec_l30Rd_pick F hS.e1 S T (by decide :rng64 9) U) ?_
 rintro aO aP ⟨W,X,Y,x,rfl,aa,ab,ac,ad⟩
 have ae:=(hS.c1 aa).t1
 refine av u (nq ?_)
 obtain⟨d,af,ag⟩:=ob V
 refine wc_cutg (fun E' w'=>∃k l m f,E'=[(0,pt g1),(3,sv d.1)]∧SH w K Z w' f [obj g1 [V3 k l m,V6 d.2.p_] 208]∧KLe x f∧d.1.length≤maxLen∧SliceAt tU8 f k l m d.2.b_∧rng64 d.2.p_) ?_ ?_
 ·refine wc_block ?_
  obtain⟨aQ,ah,ai⟩:=ob af
  refine qw (fun (c:Str×Int×GL30Rd) E' w'=>∃o q s i,E'=[(0,pt g1),(3,sv c.1),(4,V6 c.2.1)]∧SH w K Z w' i [obj g1 [V3 o q s,V6 c.2.2.p_] 208]∧KLe x i∧c.1.length≤maxLen∧rng64 c.2.1∧SliceAt tU8 i o q s c.2.2.b_∧rng64 c.2.2.p_) ah ⟨W,X,Y,x,u,ae,kr,(by decide :([]:Str).length≤maxLen),ab,ac,ad⟩ ?_
  rintro c _ aR aS aj ak ⟨o,q,s,i,rfl,y,C,al,aT,D,G⟩
  refine wc_seq (sr (mv u (lv (rv_gtr u u) (nq (wcc aj u (fun am B=>?_) (fun am B=>?_))))))
  ·refine wc_skip (qs (wc_block (wc_region (mv u (mv u ?_)))))
   obtain⟨aU,an,ao⟩:=ob B
   refine lk co267 (ok_spec_l30Raw F y.e1 D G an) ?_
   rintro aV aW ⟨aX,aY,aZ,ba,rfl,H,bb,ap,aq⟩
   have ar:=(y.c1 H).t1
   obtain⟨bc,au,aw⟩:=ob ao
   refine lv (rv_sadd u u au) (mv u (bw [[32],[32],[44,32],[45],[46,32]] underlying22 tf9 ar fun bd be bf I ax ay=>?_))
   obtain⟨bg,az,aA⟩:=ob aw
   have J:=ay.f1
   refine lk co257 (ok_spec_l30Rd_of F J.e1 (ap.mono I) aq ax az) ?_
   rintro bh bi ⟨aB,aC,aD,aE,rfl,O,bj,aF,aG⟩
   have aH:=(J.c1 O).t2
   obtain⟨bk,R,aI⟩:=ob aA
   refine lv (rv_sadd u u R) (av u (nb (qe_seq (wc_region (mv u (lv (rv_sub u u) (av u (wl_nil ?_))))))))
   cases oi aI
   exact qd ⟨_,u,aB,aC,aD,aE,u,aH.s,(((C.trans H.le).trans I).trans O.le),(len_cat R),(w64_rng _),aF,aG⟩
  refine wc_exit (qe_then_exit (qe_then_exit ?_))
  cases oi B
  cases ak _ u
  refine qe_block_eq ?_
  cases oi ai
  exact qd ⟨o,q,s,i,u,y,C,al,D,G⟩
 rintro _ bl ⟨k,l,m,f,rfl,aJ,bm,aK,aL,aM⟩
 refine qr (mv u (av u (nq (wc_ret ?_))))
 cases oi ag
 exact ey results256 ⟨k,l,m,f,u,aJ,aK,aL,aM⟩

theorem ok_spec_l30Doc {q0:GL30Rd}{q1:Int}{r:GDoc×GL30Rd}(hS:SH w K Z w K [obj g1 [V3 A a b,V6 q0.p_] 208])(bW:SliceAt tU8 K A a b q0.b_)(bX:rng64 q0.p_)(bo:rng64 q1)(hm:M.spec_l30Doc F q0 q1=some r):
  Calls prog 225 #[.pointer (some ⟨g1,0,none⟩),V6 q1] w fun e w'=>∃a_2 n_3 c_4 a_6 n_7 c_8 a_10 n_11 c_12 K',e= .returned (.agg #[V6 r.1.Id,V3 a_2 n_3 c_4,V3 a_6 n_7 c_8])∧SH w K Z w' K' [tail (V3 a_2 n_3 c_4) 108 2,tail (V3 a_6 n_7 c_8) 142 2,obj g1 [V3 a_10 n_11 c_12,V6 r.2.p_] 208]∧rng64 r.1.Id∧SliceAt tGField K' a_2 n_3 c_4 r.1.Fields∧SliceAt tGAttr K' a_6 n_7 c_8 r.1.Nums∧SliceAt tU8 K' a_10 n_11 c_12 r.2.b_∧rng64 r.2.p_:=by
 rw [M.spec_l30Doc] at hm
 refine ci func225 u ntmps225 (sr (al tf77 hS fun I w9 bY=>?_))
 have bZ:SH _ _ _ _ _ [obj I [V6 0,V3 none 0 0,V3 none 0 0] 77,_]:=bY
 refine nr (mv u (lv (rv_build (cs:=#[V6 q1,V3 none 0 0,V3 none 0 0]) sp77 tf77 u (by kernel_rfl)) (al tf77 bZ fun k dX ca=>?_)))
 have cb:SH _ _ _ _ _ [obj k [V6 0,V3 none 0 0,V3 none 0 0] 77,_,_]:=ca
 refine lw [V6 q1,V3 none 0 0,V3 none 0 0] tf77 cb fun dY cc=>(nsr (mv u ?_))
 obtain⟨dZ,cd,ce⟩:=ob hm
 have bp:=cc.f2
 refine lk co106 (ok_spec_l30Rd_pick F bp.e1 bW bX (by decide :rng64 6) cd) ?_
 rintro ea eb ⟨cf,cg,ch,aB,rfl,cj,ec,bq,br⟩
 have bs:=(bp.c1 cj).t3
 refine lv (rv_gtr u u) (nq ?_)
 obtain⟨l,ck,cl⟩:=ob ce
 refine wc_cutg (fun E' w'=>∃aC aD aE S T U o q s V,E'=[(0,pt g1),(4,pt I),(5,pt k)]∧SH w K Z w' V [obj g1 [V3 aC aD aE,V6 l.1.p_] 208,obj I [V6 0,V3 none 0 0,V3 none 0 0] 77,obj k [V6 l.2.Id,V3 S T U,V3 o q s] 77,tail (V3 S T U) 108 2,tail (V3 o q s) 142 2]∧KLe aB V∧SliceAt tU8 V aC aD aE l.1.b_∧rng64 l.1.p_∧rng64 l.2.Id∧SliceAt tGField V S T U l.2.Fields∧SliceAt tGAttr V o q s l.2.Nums) ?_ ?_
 ·refine wcc ck u (fun cm aF=>?_) (fun cm aF=>?_)
  ·have ao:=bs.drew
   refine wh1 (fun w'=>Holds aB w') (fun w'=>HasObj k [V6 q1,V3 none 0 0,V3 none 0 0] w') 8 [(1,6),(1,7),(1,8),(6,7),(6,8),(7,8)] mixed (ao.hasK kr) (fun _=>ao.hasObj (.tail _ (.head _))) (gt (rv_fieldAddr ff77_1 u) (gf (fun _ h=>rh_loadm1 tf74 u u h) (gt (rv_move u) (gn ?_))))
   obtain⟨ap,cn,cp⟩:=ob aF
   refine lk co256 (ok_spec_l30Text F ao.e1 bq br cn) ?_
   rintro ed ee ⟨cq,cr,ct,ef,rfl,W,cu,cv,cw⟩
   have aG:=(ao.c1 W).t3
   refine wl_nil (qh (aG.hasK W.le) (fun _=>aG.hasObj (.tail _ (.head _))) (gt (rv_build (cs:=#[sv [98,111,100,121],sv ap.1]) sp108 tf108 u (by kernel_rfl)) (gn (lb tGField (.agg #[sv [98,111,100,121],sv ap.1]) [sv [98,111,100,121],sv ap.1] (GField.mk ([98,111,100,121]:Str) ap.1) underlying74 tf108 ⟨u,(by decide :([98,111,100,121]:Str).length≤maxLen),cu⟩ aG fun eg eh ei ae cx aH=>(wl_nil (qh (aH.hasK (W.le.trans ae)) (fun _=>aH.hasObj (.tail _ (.tail _ (.head _)))) (gn ?_)))))))
   have cy:=aH.nil 108 2
   obtain⟨ej,cz,cA⟩:=ob cp
   refine lp underlying74 tf108 (SliceAt.nil _ _) cx cz cy fun aI aJ aK ek cB aq cC aL=>(wl_nil (qh (aL.hasK ((W.le.trans ae).trans aq)) (fun _=>aL.hasObj (.tail _ (.tail _ (.tail _ (.head _))))) (gt (rv_fieldAddr ff77_1 u) (gn (ls [V6 q1,V3 aI aJ aK,V3 none 0 0] (V3 aI aJ aK) tf74 aL.f3 fun el bu=>(wl_nil (qh (bu.hasK ((W.le.trans ae).trans aq)) (fun h=>nomatch h) (gd' ?_))))))))
   cases oi cA
   have cD:=bu.nil 142 2
   exact qd ⟨cq,cr,ct,aI,aJ,aK,none,0,0,cB,u,cD.f2.f2.f5.f5.s,((W.le.trans ae).trans aq),(cv.mono (ae.trans aq)),cw,bo,cC,(SliceAt.nil _ _)⟩
  refine wc_skip ?_
  cases oi aF
  have cE:=bs.nil 108 2
  have cF:=cE.nil 142 2
  exact qd ⟨cf,cg,ch,none,0,0,none,0,0,aB,u,cF.f1.f3.f4.f4,kr,bq,br,bo,(SliceAt.nil _ _),(SliceAt.nil _ _)⟩
 rintro _ em ⟨aC,aD,aE,S,T,U,o,q,s,V,rfl,bv,en,cG,cH,bx,bz,bA⟩
 refine qs (sr (mv u ?_))
 obtain⟨eo,cI,cJ⟩:=ob cl
 refine lk co106 (ok_spec_l30Rd_pick F bv.e1 cG cH (by decide :rng64 3) cI) ?_
 rintro ep eq ⟨cK,cL,cM,aM,rfl,af,es,bB,bC⟩
 have bD:=(bv.c1 af).t5
 refine lv (rv_eql u u) (nq ?_)
 obtain⟨m,cN,cO⟩:=ob cJ
 refine wc_cutg (fun E' w'=>∃aN aO aP v x y X Y aa ab,E'=[(0,pt g1),(4,pt I),(5,pt k)]∧SH w K Z w' ab [obj g1 [V3 aN aO aP,V6 m.1.p_] 208,obj I [V6 0,V3 none 0 0,V3 none 0 0] 77,obj k [V6 m.2.Id,V3 v x y,V3 X Y aa] 77,tail (V3 v x y) 108 2,tail (V3 X Y aa) 142 2]∧KLe aM ab∧SliceAt tU8 ab aN aO aP m.1.b_∧rng64 m.1.p_∧rng64 m.2.Id∧SliceAt tGField ab v x y m.2.Fields∧SliceAt tGAttr ab X Y aa m.2.Nums) ?_ ?_
 ·refine wcc cN u (fun cP aQ=>?_) (fun cP aQ=>?_)
  ·have ar:=bD.drew
   refine wh1 (fun w'=>Holds aM w') (fun w'=>HasObj k [V6 l.2.Id,V3 S T U,V3 o q s] w') 8 [(1,6),(1,7),(1,8),(6,7),(6,8),(7,8)] mixed (ar.hasK kr) (fun _=>ar.hasObj (.tail _ (.tail _ (.head _)))) (gt (rv_fieldAddr ff77_1 u) (gf (fun _ h=>rh_loadm1 tf74 u u h) (gt (rv_move u) (gn ?_))))
   obtain⟨au,cQ,cR⟩:=ob aQ
   refine lk co256 (ok_spec_l30Text F ar.e1 bB bC cQ) ?_
   rintro et eu ⟨cS,cT,cU,ev,rfl,B,cV,cW,cX⟩
   have aR:=(ar.c1 B).t5
   refine wl_nil (qh (aR.hasK B.le) (fun _=>aR.hasObj (.tail _ (.tail _ (.head _)))) (gt (rv_build (cs:=#[sv [116,105,116,108,101],sv au.1]) sp108 tf108 u (by kernel_rfl)) (gn (lb tGField (.agg #[sv [116,105,116,108,101],sv au.1]) [sv [116,105,116,108,101],sv au.1] (GField.mk ([116,105,116,108,101]:Str) au.1) underlying74 tf108 ⟨u,(by decide :([116,105,116,108,101]:Str).length≤maxLen),cV⟩ aR fun ew ex eA J cY aS=>(wl_nil (qh (aS.hasK (B.le.trans J)) (fun _=>aS.hasObj (.tail _ (.tail _ (.tail _ (.head _))))) (gn ?_)))))))
   obtain⟨eB,cZ,da⟩:=ob cR
   refine lp underlying74 tf108 (bz.mono ((af.le.trans B.le).trans J)) cY cZ aS.f4 fun aT aU aV eC db ag dc aW=>(wl_nil (qh (aW.hasK ((B.le.trans J).trans ag)) (fun _=>aW.hasObj (.tail _ (.tail _ (.tail _ (.tail _ (.head _)))))) (gt (rv_fieldAddr ff77_1 u) (gn (ls [V6 l.2.Id,V3 aT aU aV,V3 o q s] (V3 aT aU aV) tf74 aW.f4 fun eD bE=>(wl_nil (qh (bE.hasK ((B.le.trans J).trans ag)) (fun h=>nomatch h) (gd' ?_))))))))
   cases oi da
   exact qd ⟨cS,cT,cU,aT,aU,aV,o,q,s,db,u,bE.f5.f2.f2.f5.f5.s,((B.le.trans J).trans ag),(cW.mono (J.trans ag)),cX,bx,dc,(SliceAt.mono (((af.le.trans B.le).trans J).trans ag) bA)⟩
  refine wc_skip ?_
  cases oi aQ
  exact qd ⟨cK,cL,cM,S,T,U,o,q,s,aM,u,bD,kr,bB,bC,bx,(bz.mono af.le),(bA.mono af.le)⟩
 rintro _ eE ⟨aN,aO,aP,v,x,y,X,Y,aa,ab,rfl,bF,eF,dd,de,bG,bH,bI⟩
 refine qs (sr (mv u ?_))
 obtain⟨eG,df,dg⟩:=ob cO
 refine lk co106 (ok_spec_l30Rd_pick F bF.e1 dd de (by decide :rng64 3) df) ?_
 rintro eH eI ⟨dh,di,dj,aX,rfl,ah,eJ,bJ,bK⟩
 have bL:=(bF.c1 ah).t5
 refine lv (rv_gtr u u) (nq ?_)
 obtain⟨c,dk,dl⟩:=ob dg
 refine wc_cutg (fun E' w'=>∃aY aZ ba d f i C D G ac,E'=[(0,pt g1),(4,pt I),(5,pt k)]∧SH w K Z w' ac [obj g1 [V3 aY aZ ba,V6 c.1.p_] 208,obj I [V6 0,V3 none 0 0,V3 none 0 0] 77,obj k [V6 c.2.Id,V3 d f i,V3 C D G] 77,tail (V3 d f i) 108 2,tail (V3 C D G) 142 2]∧KLe aX ac∧SliceAt tU8 ac aY aZ ba c.1.b_∧rng64 c.1.p_∧rng64 c.2.Id∧SliceAt tGField ac d f i c.2.Fields∧SliceAt tGAttr ac C D G c.2.Nums) ?_ ?_
 ·refine wcc dk u (fun dm bb=>?_) (fun dm bb=>?_)
  ·have aw:=bL.drew
   refine wh1 (fun w'=>Holds aX w') (fun w'=>HasObj k [V6 m.2.Id,V3 v x y,V3 X Y aa] w') 8 [(1,6),(1,7),(1,8),(6,7),(6,8),(7,8)] mixed (aw.hasK kr) (fun _=>aw.hasObj (.tail _ (.tail _ (.head _)))) (gt (rv_fieldAddr ff77_2 u) (gf (fun _ h=>rh_loadm1 tf75 u u h) (gt (rv_move u) (gn ?_))))
   obtain⟨ax,dn,dp⟩:=ob bb
   refine lk co106 (ok_spec_l30Rd_pick F aw.e1 bJ bK (by decide :rng64 4) dn) ?_
   rintro eK eL ⟨dq,dr,dt,eM,rfl,H,du,dv,dw⟩
   have bc:=(aw.c1 H).t5
   refine wl_nil (qh (bc.hasK H.le) (fun _=>bc.hasObj (.tail _ (.tail _ (.head _)))) (gt (rv_build (cs:=#[sv [114,97,116,101],V6 ax.1]) sp142 tf142 u (by kernel_rfl)) (gn (lb tGAttr (.agg #[sv [114,97,116,101],V6 ax.1]) [sv [114,97,116,101],V6 ax.1] (GAttr.mk ([114,97,116,101]:Str) ax.1) underlying75 tf142 ⟨u,(by decide :([114,97,116,101]:Str).length≤maxLen),du⟩ bc fun eN eO eP O dx bd=>(wl_nil (qh (bd.hasK (H.le.trans O)) (fun _=>bd.hasObj (.tail _ (.tail _ (.tail _ (.head _))))) (gn ?_)))))))
   obtain⟨eQ,dy,dz⟩:=ob dp
   refine lp underlying75 tf142 (bI.mono ((ah.le.trans H.le).trans O)) dx dy bd.f5 fun be bf bg eR dA ai dB bh=>(wl_nil (qh (bh.hasK ((H.le.trans O).trans ai)) (fun _=>bh.hasObj (.tail _ (.tail _ (.tail _ (.tail _ (.head _)))))) (gt (rv_fieldAddr ff77_2 u) (gn (ls [V6 m.2.Id,V3 v x y,V3 be bf bg] (V3 be bf bg) tf75 bh.f4 fun eS bM=>(wl_nil (qh (bM.hasK ((H.le.trans O).trans ai)) (fun h=>nomatch h) (gd' ?_))))))))
   cases oi dz
   exact qd ⟨dq,dr,dt,v,x,y,be,bf,bg,dA,u,bM.f1.f5.f2.f5.f5.s,((H.le.trans O).trans ai),(dv.mono (O.trans ai)),dw,bG,(SliceAt.mono (((ah.le.trans H.le).trans O).trans ai) bH),dB⟩
  refine wc_skip ?_
  cases oi bb
  exact qd ⟨dh,di,dj,v,x,y,X,Y,aa,aX,u,bL,kr,bJ,bK,bG,(bH.mono ah.le),(bI.mono ah.le)⟩
 rintro _ eT ⟨aY,aZ,ba,d,f,i,C,D,G,ac,rfl,bN,eU,dC,dD,bO,bP,bQ⟩
 refine qs (sr (mv u ?_))
 obtain⟨eV,dE,dF⟩:=ob dl
 refine lk co106 (ok_spec_l30Rd_pick F bN.e1 dC dD (by decide :rng64 3) dE) ?_
 rintro eW eX ⟨dG,dH,dI,bR,rfl,aj,eY,bS,bT⟩
 have bi:=(bN.c1 aj).t5
 refine lv (rv_eql u u) (nq (wcc dF u (fun dJ bj=>?_) (fun dJ bj=>?_)))
 ·have ay:=bi.drew
  refine wh1 (fun w'=>Holds bR w') (fun w'=>HasObj k [V6 c.2.Id,V3 d f i,V3 C D G] w') 9 [(1,7),(1,8),(1,9),(7,8),(7,9),(8,9)] mixed (ay.hasK kr) (fun _=>ay.hasObj (.tail _ (.tail _ (.head _)))) (gt (rv_fieldAddr ff77_2 u) (gf (fun _ h=>rh_loadm1 tf75 u u h) (gt (rv_move u) (gn ?_))))
  obtain⟨az,dK,dL⟩:=ob bj
  refine lk co106 (ok_spec_l30Rd_pick F ay.e1 bS bT (by decide :rng64 30) dK) ?_
  rintro eZ fb ⟨dM,dN,dO,fc,rfl,R,fd,dP,dQ⟩
  have bk:=(ay.c1 R).t5
  refine wl_nil (qh (bk.hasK R.le) (fun _=>bk.hasObj (.tail _ (.tail _ (.head _)))) (gt (rv_add u u) (gt (rv_build (cs:=#[sv [121,101,97,114],V6 (w64 ((2000:Int)+az.1))]) sp142 tf142 u (by kernel_rfl)) (gn (lb tGAttr (.agg #[sv [121,101,97,114],V6 (w64 ((2000:Int)+az.1))]) [sv [121,101,97,114],V6 (w64 ((2000:Int)+az.1))] (GAttr.mk ([121,101,97,114]:Str) (w64 ((2000:Int)+az.1))) underlying75 tf142 ⟨u,(by decide :([121,101,97,114]:Str).length≤maxLen),(w64_rng _)⟩ bk fun fe fg fh ad dR bl=>(wl_nil (qh (bl.hasK (R.le.trans ad)) (fun _=>bl.hasObj (.tail _ (.tail _ (.tail _ (.head _))))) (gn ?_))))))))
  obtain⟨fi,dS,dT⟩:=ob dL
  refine lp underlying75 tf142 (bQ.mono ((aj.le.trans R.le).trans ad)) dR dS bl.f5 fun ak am an fj dU aA dV bm=>(wl_nil (qh (bm.hasK ((R.le.trans ad).trans aA)) (fun _=>bm.hasObj (.tail _ (.tail _ (.tail _ (.tail _ (.head _)))))) (gt (rv_fieldAddr ff77_2 u) (gn (ls [V6 c.2.Id,V3 d f i,V3 ak am an] (V3 ak am an) tf75 bm.f4 fun fk bn=>(wl_nil (qh (bn.hasK ((R.le.trans ad).trans aA)) (fun h=>nomatch h) (gd' (qr (lv (rv_loadmS (ds:=[V6 c.2.Id,V3 d f i,V3 ak am an]) tf77 u m0 bn u u) (lw [V6 c.2.Id,V3 d f i,V3 ak am an] tf77 bn.f4 fun fm bU=>?_)))))))))))
  refine nq (wc_ret ?_)
  cases oi dT
  exact ez results225 tf77 bU m0 ⟨d,f,i,ak,am,an,dM,dN,dO,dU,u,bU.f4.f3.f5.s,bO,(SliceAt.mono (((aj.le.trans R.le).trans ad).trans aA) bP),dV,(dP.mono (ad.trans aA)),dQ⟩
 refine wc_skip (qr (lv (rv_loadmS (ds:=[V6 c.2.Id,V3 d f i,V3 C D G]) tf77 u m2 bi u u) (lw [V6 c.2.Id,V3 d f i,V3 C D G] tf77 bi.f1 fun fn bV=>(nq (wc_ret ?_)))))
 cases oi bj
 exact ez results225 tf77 bV m0 ⟨d,f,i,C,D,G,dG,dH,dI,bR,u,bV.f1.f4.f4.s,bO,(bP.mono aj.le),(bQ.mono aj.le),bS,bT⟩

theorem ok_spec_l30Docs {q0:GL30Rd}{r:(List GDoc)×GL30Rd}(hS:SH w K Z w K [obj g1 [V3 A a b,V6 q0.p_] 208])(aj:SliceAt tU8 K A a b q0.b_)(ak:rng64 q0.p_)(hm:M.spec_l30Docs F q0=some r):
  Calls prog 181 #[.pointer (some ⟨g1,0,none⟩)] w fun e w'=>∃a_1 n_2 c_3 a_5 n_6 c_7 K',e= .returned (V3 a_1 n_2 c_3)∧SH w K Z w' K' [tail (V3 a_1 n_2 c_3) 77 3,obj g1 [V3 a_5 n_6 c_7,V6 r.2.p_] 208]∧SliceAt tGDoc K' a_1 n_2 c_3 r.1∧SliceAt tU8 K' a_5 n_6 c_7 r.2.b_∧rng64 r.2.p_:=by
 rw [M.spec_l30Docs] at hm
 refine ci func181 u ntmps181 (sr (lv (r_n u) (nr (b0 tGDoc underlying43 tf77 hS fun a7 w9 bm am an ao=>(av u (nr (lv (r_0 u) (nsr (mv u ?_)))))))))
 obtain⟨bn,ap,aq⟩:=ob hm
 have ab:=ao.f1
 refine lk co106 (ok_spec_l30Rd_pick F ab.e1 (aj.mono am) ak (by decide :rng64 6) ap) ?_
 rintro bo bp ⟨ar,au,aw,H,rfl,ac,ax,ay,az⟩
 have aA:=(ab.c1 ac).t2
 refine av u (nq ?_)
 obtain⟨s,aB,aC⟩:=ob aq
 refine wc_cutg (fun E' w'=>∃i k l x y B d,E'=[(0,pt g1),(3,V3 i k l)]∧SH w K Z w' d [obj g1 [V3 x y B,V6 s.2.p_] 208,tail (V3 i k l) 77 3]∧KLe H d∧SliceAt tGDoc d i k l s.1∧SliceAt tU8 d x y B s.2.b_∧rng64 s.2.p_) ?_ ?_
 ·refine wc_block ?_
  obtain⟨bq,aD,aE⟩:=ob aB
  refine qw (fun (c:(List GDoc)×Int×Int×GL30Rd) E' w'=>∃m o q C D G f,E'=[(0,pt g1),(3,V3 m o q),(4,V6 c.2.1),(5,V6 c.2.2.1)]∧SH w K Z w' f [obj g1 [V3 C D G,V6 c.2.2.2.p_] 208,tail (V3 m o q) 77 3]∧KLe H f∧SliceAt tGDoc f m o q c.1∧rng64 c.2.1∧rng64 c.2.2.1∧SliceAt tU8 f C D G c.2.2.2.b_∧rng64 c.2.2.2.p_) aD ⟨a7,0,0,ar,au,aw,H,u,aA,kr,(an.mono ac.le),d_0,ax,ay,az⟩ ?_
  rintro c _ br bs aF aG ⟨m,o,q,C,D,G,f,rfl,I,ad,ae,bu,bv,af,ag⟩
  refine wc_seq (sr (mv u (lv (rv_gtr u u) (nq (wcc aF u (fun aH J=>?_) (fun aH J=>?_))))))
  ·refine wc_skip (qs (wc_block (sr (mv u (lv (rv_add u u) (mv u ?_))))))
   obtain⟨bx,aI,aJ⟩:=ob J
   refine lk co106 (ok_spec_l30Rd_pick F I.e1 af ag (by decide :rng64 3) aI) ?_
   rintro bz bA ⟨bB,bC,bD,bE,rfl,O,bF,aK,aL⟩
   have ah:=(I.c1 O).t2
   refine lv (rv_add u u) (av u (nq (wc_region (mv u (mv u (mv u ?_))))))
   obtain⟨R,aM,aN⟩:=ob aJ
   refine lk co225 (ok_spec_l30Doc F ah.e1 aK aL (w64_rng _) aM) ?_
   rintro bG bH ⟨S,T,U,V,W,X,aO,aP,aQ,bI,rfl,Y,aR,aS,aT,aU,aV⟩
   have aW:=(ah.c1 Y).t4
   refine lb tGDoc (.agg #[V6 R.1.Id,V3 S T U,V3 V W X]) [V6 R.1.Id,V3 S T U,V3 V W X] R.1 underlying43 tf77 ⟨S,T,U,V,W,X,u,aR,aS,aT⟩ aW fun bJ bK bL aa aX aY=>?_
   obtain⟨bM,aZ,ba⟩:=ob aN
   refine lp underlying43 tf77 (ae.mono ((O.le.trans Y.le).trans aa)) aX aZ aY.f4 fun bb bc bd bN be ai bf bg=>(av u (nb (qe_seq (wc_region (mv u (lv (rv_sub u u) (av u (wl_nil ?_))))))))
   cases oi ba
   exact qd ⟨_,u,bb,bc,bd,aO,aP,aQ,be,u,bg.f4.s,((((ad.trans O.le).trans Y.le).trans aa).trans ai),bf,(w64_rng _),(w64_rng _),(aU.mono (aa.trans ai)),aV⟩
  refine wc_exit (qe_then_exit (qe_then_exit ?_))
  cases oi J
  cases aG _ u
  refine qe_block_eq ?_
  cases oi aE
  exact qd ⟨m,o,q,C,D,G,f,u,I,ad,ae,af,ag⟩
 rintro _ bO ⟨i,k,l,x,y,B,d,rfl,bh,bP,bi,bj,bk⟩
 refine qr (mv u (av u (nq (wc_ret ?_))))
 cases oi aC
 exact ey results181 ⟨i,k,l,x,y,B,d,u,bh.f1,bi,bj,bk⟩

theorem ok_spec_IndexNew {q0:GConf}{r:GIndex}(hS:SH w K [] w K [])(y:SliceAt tStr K A a b q0.Stops)(C:SliceAt tGSyn K B c d q0.Syns)(hm:M.spec_IndexNew F q0=some r):
  Calls prog 220 #[.agg #[V3 A a b,V3 B c d]] w fun e w'=>∃a_1 n_2 c_3 a_5 n_6 c_7 a_9 n_10 c_11 K',e= .returned (.agg #[V3 a_1 n_2 c_3,V3 a_5 n_6 c_7,V3 a_9 n_10 c_11])∧SH w K [] w' K' [tail (V3 a_9 n_10 c_11) 73 3]∧SliceAt tStr K' a_1 n_2 c_3 r.Conf.Stops∧SliceAt tGSyn K' a_5 n_6 c_7 r.Conf.Syns∧SliceAt tGLive K' a_9 n_10 c_11 r.Segs:=by
 rw [M.spec_IndexNew] at hm
 refine ci func220 u ntmps220 (sr (bx u hS fun H ag I=>?_))
 have J:SH _ _ _ _ _ [obj H [V3 A a b,V3 B c d] 33]:=I
 refine al tf36 J fun O ah R=>?_
 have i:SH _ _ _ _ _ [obj O [V3 none 0 0,V3 none 0 0,V3 none 0 0] 36,_]:=R
 refine nsr (lv (rv_loadmS (ds:=[V3 A a b,V3 B c d]) tf33 u m1 i u u) ?_)
 obtain⟨ai,S,T⟩:=ob hm
 refine lk co66 (ok_spec_l2Ok F i.enter0 y C S) ?_
 rintro aj ak ⟨U,rfl,k⟩
 have f:=(i.c0 k).t2
 refine lv (rv_not u) (nq (wcc T u (fun V l=>?_) (fun V l=>?_)))
 ·refine sr (lv (rv_build (cs:=#[V3 none 0 0,V3 none 0 0,V3 none 0 0]) sp36 tf36 u (by kernel_rfl)) (lw [V3 none 0 0,V3 none 0 0,V3 none 0 0] tf36 f fun am D=>(nq (rr ?_))))
  cases oi l
  have W:=D.nil 73 3
  exact ez results220 tf36 D m0 ⟨none,0,0,none,0,0,none,0,0,U,u,W.s,(SliceAt.nil _ _),(SliceAt.nil _ _),(SliceAt.nil _ _)⟩
 refine wc_skip (qr (lv (rv_loadmS (ds:=[V3 A a b,V3 B c d]) tf33 u m1 f u u) ?_))
 obtain⟨an,X,Y⟩:=ob l
 refine lk co173 (ok_spec_l18CopyConf F f.enter0 (y.mono k.le) (C.mono k.le) X) ?_
 rintro ao ap ⟨m,o,q,s,v,x,aa,rfl,ab,ac,ad⟩
 have ae:=(f.c0 ab).t4
 refine lv (rv_build (cs:=#[V3 m o q,V3 s v x,V3 none 0 0]) sp36 tf36 u (by kernel_rfl)) (lw [V3 m o q,V3 s v x,V3 none 0 0] tf36 ae.f2 fun aq G=>(nq (wc_ret ?_)))
 cases oi Y
 have af:=G.nil 73 3
 exact ez results220 tf36 G m0 ⟨m,o,q,s,v,x,none,0,0,aa,u,af.s,ac,ad,(SliceAt.nil _ _)⟩

theorem ok_spec_l30Conf {q0:GL30Rd}{r:GConf×GL30Rd}(hS:SH w K Z w K [obj g1 [V3 A a b,V6 q0.p_] 208])(aI:SliceAt tU8 K A a b q0.b_)(aJ:rng64 q0.p_)(hm:M.spec_l30Conf F q0=some r):
  Calls prog 221 #[.pointer (some ⟨g1,0,none⟩)] w fun e w'=>∃a_1 n_2 c_3 a_5 n_6 c_7 a_9 n_10 c_11 K',e= .returned (.agg #[V3 a_1 n_2 c_3,V3 a_5 n_6 c_7])∧SH w K Z w' K' [tail (V3 a_1 n_2 c_3) 9 1,tail (V3 a_5 n_6 c_7) 159 2,obj g1 [V3 a_9 n_10 c_11,V6 r.2.p_] 208]∧SliceAt tStr K' a_1 n_2 c_3 r.1.Stops∧SliceAt tGSyn K' a_5 n_6 c_7 r.1.Syns∧SliceAt tU8 K' a_9 n_10 c_11 r.2.b_∧rng64 r.2.p_:=by
 rw [M.spec_l30Conf] at hm
 refine ci func221 rfl ntmps221 (sr (al tf33 hS fun s w9 aK=>?_))
 have aL:SH _ _ _ _ _ [obj s [V3 none 0 0,V3 none 0 0] 33,_]:=aK
 refine nr (lv (rv_build (cs:=#[V3 none 0 0,V3 none 0 0]) sp33 tf33 rfl (by kernel_rfl)) (al tf33 aL fun v bZ aM=>?_))
 have aN:SH _ _ _ _ _ [obj v [V3 none 0 0,V3 none 0 0] 33,_,_]:=aM
 refine lw [V3 none 0 0,V3 none 0 0] tf33 aN fun ca aO=>(nsr (mv rfl ?_))
 obtain⟨aP,aQ,aR⟩:=ob hm
 have ak:=aO.f2
 refine lk co106 (ok_spec_l30Rd_pick F ak.e1 aI aJ (by decide :rng64 3) aQ) ?_
 rintro cb cc ⟨aS,aT,aU,am,rfl,aV,cd,aW,aX⟩
 have an:=(ak.c1 aV).t3
 refine lv (rv_gtr rfl rfl) (nq ?_)
 obtain⟨ao,aY,aZ⟩:=ob aR
 refine wc_cutg (fun E' w'=>∃x y B i k l C,E'=[(0,pt g1),(2,pt s),(3,pt v)]∧SH w K Z w' C [obj g1 [V3 aS aT aU,V6 aP.2.p_] 208,obj s [V3 none 0 0,V3 none 0 0] 33,obj v [V3 x y B,V3 i k l] 33,tail (V3 x y B) 9 1,tail (V3 i k l) 159 2]∧KLe am C∧SliceAt tStr C x y B ao.Stops∧SliceAt tGSyn C i k l ao.Syns) ?_ ?_
 ·refine wcc aY rfl (fun ba W=>?_) (fun ba W=>?_)
  ·refine wc_region (lb tStr (sv [116,104,101]) [sv [116,104,101]] ([116,104,101]:Str) underlying22 tf9 ⟨rfl,(by decide :([116,104,101]:Str).length≤maxLen)⟩ an fun X ce bb bc bd be=>(fa ff33_0 rfl (ls [V3 X 1 1,V3 none 0 0] (V3 X 1 1) tf22 be.f2 fun cf bf=>(wl_nil ?_))))
   cases oi W
   have bg:=bf.nil 159 2
   exact qd ⟨X,1,1,none,0,0,bb,rfl,bg.f2.f2.f4.f4,bc,bd,(SliceAt.nil _ _)⟩
  refine wc_skip ?_
  cases oi W
  have bh:=an.nil 9 1
  have bi:=bh.nil 159 2
  exact qd ⟨none,0,0,none,0,0,am,rfl,bi.f1.f3.f4.f4,kr,(SliceAt.nil _ _),(SliceAt.nil _ _)⟩
 rintro _ cg ⟨x,y,B,i,k,l,C,rfl,ap,bj,bk,aq⟩
 refine qs (sr (mv rfl ?_))
 obtain⟨bl,bm,bn⟩:=ob aZ
 refine lk co106 (ok_spec_l30Rd_pick F ap.e1 (aW.mono bj) aX (by decide :rng64 4) bm) ?_
 rintro ch cj ⟨bo,bp,bq,ar,rfl,S,ck,br,bs⟩
 have au:=(ap.c1 S).t5
 refine lv (rv_eql rfl rfl) (nq ?_)
 obtain⟨aw,bu,bv⟩:=ob bn
 refine wc_cutg (fun E' w'=>∃c d f m o q D,E'=[(0,pt g1),(2,pt s),(3,pt v)]∧SH w K Z w' D [obj g1 [V3 bo bp bq,V6 bl.2.p_] 208,obj s [V3 none 0 0,V3 none 0 0] 33,obj v [V3 c d f,V3 m o q] 33,tail (V3 c d f) 9 1,tail (V3 m o q) 159 2]∧KLe ar D∧SliceAt tStr D c d f aw.Stops∧SliceAt tGSyn D m o q aw.Syns) ?_ ?_
 ·refine wcc bu rfl (fun bx Y=>?_) (fun bx Y=>?_)
  ·refine wc_region (bw [[100,111,103],[116,104,101]] underlying22 tf9 au fun aa cl bz ax bA bB=>(fa ff33_0 rfl (ls [V3 aa 2 2,V3 i k l] (V3 aa 2 2) tf22 bB.f3 fun cm bC=>(wl_nil ?_))))
   cases oi Y
   exact qd ⟨aa,2,2,i,k,l,bz,rfl,bC.f5.f2.f2.f4.f4.s,ax,bA,(aq.mono (S.le.trans ax))⟩
  refine wc_skip ?_
  cases oi Y
  exact qd ⟨x,y,B,i,k,l,ar,rfl,au,kr,(bk.mono S.le),(aq.mono S.le)⟩
 rintro _ cn ⟨c,d,f,m,o,q,D,rfl,ay,bD,ab,bE⟩
 refine qs (sr (mv rfl ?_))
 obtain⟨cp,bF,bG⟩:=ob bv
 refine lk co106 (ok_spec_l30Rd_pick F ay.e1 (br.mono bD) bs (by decide :rng64 4) bF) ?_
 rintro cq cr ⟨ac,ad,ae,bH,rfl,G,ct,af,ag⟩
 have T:=(ay.c1 G).t5
 refine nq (wc_block (sr (lv (rv_eql rfl rfl) (av rfl (nq (wcc bG rfl (fun bI ah=>?_) (fun bI ah=>?_)))))))
 ·refine wc_region (bw [[110,101,119],[121,111,114,107]] underlying22 tf9 T fun U cu cv az bJ bK=>(lv (rv_build (cs:=#[V3 U 2 2,sv [110,121]]) sp159 tf159 rfl (by kernel_rfl)) (lb tGSyn (.agg #[V3 U 2 2,sv [110,121]]) [V3 U 2 2,sv [110,121]] (GSyn.mk ([([110,101,119]:Str),([121,111,114,107]:Str)]:List Str) ([110,121]:Str)) underlying31 tf159 ⟨U,2,2,rfl,bJ,(by decide :([110,121]:Str).length≤maxLen)⟩ bK fun H cw bL aA bM bN=>(fa ff33_1 rfl (ls [V3 c d f,V3 H 1 1] (V3 H 1 1) tf31 bN.f4 fun cx aB=>(nb (qr (lv (rv_loadmS (ds:=[V3 c d f,V3 H 1 1]) tf33 rfl m0 aB rfl rfl) (lw [V3 c d f,V3 H 1 1] tf33 aB.f4 fun cy aC=>?_)))))))))
  refine nq (wc_ret ?_)
  cases oi ah
  exact ez results221 tf33 aC m0 ⟨c,d,f,H,1,1,ac,ad,ae,bL,rfl,aC.f4.f3.f5.s,(ab.mono ((G.le.trans az).trans aA)),bM,(af.mono (az.trans aA)),ag⟩
 refine sr (lv (rv_eql rfl rfl) (av rfl (nq (wcc ah rfl (fun bO ai=>?_) (fun bO ai=>?_)))))
 ·refine wc_region (lb tStr (sv [98,105,103]) [sv [98,105,103]] ([98,105,103]:Str) underlying22 tf9 ⟨rfl,(by decide :([98,105,103]:Str).length≤maxLen)⟩ T fun I cz cA aD bP bQ=>(lv (rv_build (cs:=#[V3 I 1 1,sv [108,97,114,103]]) sp159 tf159 rfl (by kernel_rfl)) (bw [[98,105,103],[114,101,100],[102,111,120]] underlying22 tf9 bQ fun J cB cC aj bR bS=>(lv (rv_build (cs:=#[V3 J 3 3,sv [102,111,120]]) sp159 tf159 rfl (by kernel_rfl)) (bw [[110,101,119],[121,111,114,107]] underlying22 tf9 bS fun O cD cE V bT bU=>(lv (rv_build (cs:=#[V3 O 2 2,sv [110,121]]) sp159 tf159 rfl (by kernel_rfl)) ?_))))))
  refine wl_buildSlice (t:=tGSyn) (n:=3) (pv:=[(0,.agg #[V3 I 1 1,sv [108,97,114,103]]),(1,.agg #[V3 J 3 3,sv [102,111,120]]),(2,.agg #[V3 O 2 2,sv [110,121]])]) (cs:=[V3 I 1 1,sv [108,97,114,103],V3 J 3 3,sv [102,111,120],V3 O 2 2,sv [110,121]]) (xs:=[(GSyn.mk ([([98,105,103]:Str)]:List Str) ([108,97,114,103]:Str)),(GSyn.mk ([([98,105,103]:Str),([114,101,100]:Str),([102,111,120]:Str)]:List Str) ([102,111,120]:Str)),(GSyn.mk ([([110,101,119]:Str),([121,111,114,107]:Str)]:List Str) ([110,121]:Str))]) wn rfl underlying31 tf159 rfl rfl rfl (by kernel_rfl) rfl rfl (lit_cons (u:=.agg #[V3 I 1 1,sv [108,97,114,103]]) (z:=(GSyn.mk ([([98,105,103]:Str)]:List Str) ([108,97,114,103]:Str))) ⟨I,1,1,rfl,(bP.mono (aj.trans V)),(by decide :([108,97,114,103]:Str).length≤maxLen)⟩ (lit_cons (u:=.agg #[V3 J 3 3,sv [102,111,120]]) (z:=(GSyn.mk ([([98,105,103]:Str),([114,101,100]:Str),([102,111,120]:Str)]:List Str) ([102,111,120]:Str))) ⟨J,3,3,rfl,(bR.mono V),(by decide :([102,111,120]:Str).length≤maxLen)⟩ (lit_cons (u:=.agg #[V3 O 2 2,sv [110,121]]) (z:=(GSyn.mk ([([110,101,119]:Str),([121,111,114,107]:Str)]:List Str) ([110,121]:Str))) ⟨O,2,2,rfl,bT,(by decide :([110,121]:Str).length≤maxLen)⟩ lit_nil))) bU ?_
  intro R cF bV aE bW bX
  refine fa ff33_1 rfl (ls [V3 c d f,V3 R 3 3] (V3 R 3 3) tf31 bX.f6 fun cG aF=>(nb (qr (lv (rv_loadmS (ds:=[V3 c d f,V3 R 3 3]) tf33 rfl m0 aF rfl rfl) (lw [V3 c d f,V3 R 3 3] tf33 aF.f6 fun cH aG=>(nq (wc_ret ?_)))))))
  cases oi ai
  exact ez results221 tf33 aG m0 ⟨c,d,f,R,3,3,ac,ad,ae,bV,rfl,aG.f6.f3.f7.s,(SliceAt.mono ((((G.le.trans aD).trans aj).trans V).trans aE) ab),bW,(SliceAt.mono (((aD.trans aj).trans V).trans aE) af),ag⟩
 refine wc_skip (qe_block (qr (lv (rv_loadmS (ds:=[V3 c d f,V3 m o q]) tf33 rfl m2 T rfl rfl) (lw [V3 c d f,V3 m o q] tf33 T.f1 fun cI aH=>(nq (wc_ret ?_))))))
 cases oi ai
 exact ez results221 tf33 aH m0 ⟨c,d,f,m,o,q,ac,ad,ae,bH,rfl,aH.f1.f4.f4.s,(ab.mono G.le),(bE.mono G.le),af,ag⟩

theorem ok_spec_l30Index {q0:GL30Rd}{r:GIndex×GL30Rd}(hS:SH w K Z w K [obj g1 [V3 A a b,V6 q0.p_] 208])(fh:SliceAt tU8 K A a b q0.b_)(fi:rng64 q0.p_)(hm:M.spec_l30Index F q0=some r):
  Calls prog 169 #[.pointer (some ⟨g1,0,none⟩)] w fun e w'=>∃a_1 n_2 c_3 a_5 n_6 c_7 a_9 n_10 c_11 a_13 n_14 c_15 K',e= .returned (.agg #[V3 a_1 n_2 c_3,V3 a_5 n_6 c_7,V3 a_9 n_10 c_11])∧SH w K Z w' K' [tail (V3 a_9 n_10 c_11) 73 3,obj g1 [V3 a_13 n_14 c_15,V6 r.2.p_] 208]∧SliceAt tStr K' a_1 n_2 c_3 r.1.Conf.Stops∧SliceAt tGSyn K' a_5 n_6 c_7 r.1.Conf.Syns∧SliceAt tGLive K' a_9 n_10 c_11 r.1.Segs∧SliceAt tU8 K' a_13 n_14 c_15 r.2.b_∧rng64 r.2.p_:=by
 rw [M.spec_l30Index] at hm
 refine ci func169 u ntmps169 (sr (al tf36 hS fun D w9 fj=>?_))
 have fk:SH _ _ _ _ _ [obj D [V3 none 0 0,V3 none 0 0,V3 none 0 0] 36,_]:=fj
 refine nr (mv u ?_)
 obtain⟨ie,fm,fn⟩:=ob hm
 have cx:=fk.f1
 refine lk co221 (ok_spec_l30Conf F cx.e1 fh fi fm) ?_
 rintro ig ih ⟨ii,ij,ik,il,im,io,ip,iq,ir,it,rfl,fo,fp,fq,fr,fs⟩
 have cy:=(cx.c1 fo).t4
 obtain⟨iu,ft,fu⟩:=ob fn
 refine lk co220 (ok_spec_IndexNew F cy.enter0 fp fq ft) ?_
 rintro iv iw ⟨cz,cA,cB,cC,cD,cE,cF,cG,cH,ix,rfl,cI,fv,fw,fx⟩
 have fy:=(cy.c0 cI).t5
 refine al tf36 fy fun o iy fz=>?_
 have fA:SH _ _ _ _ _ [obj o [V3 none 0 0,V3 none 0 0,V3 none 0 0] 36,_,_,_,_,_]:=fz
 refine lw [V3 cz cA cB,V3 cC cD cE,V3 cF cG cH] tf36 fA fun iz fB=>(nsr (mv u ?_))
 obtain⟨iA,fC,fD⟩:=ob fu
 have cJ:=fB.f4
 refine lk co106 (ok_spec_l30Rd_pick F cJ.e1 (fr.mono cI.le) fs (by decide :rng64 7) fC) ?_
 rintro iB iC ⟨fE,fF,fG,bI,rfl,bi,fH,fI,fJ⟩
 have fK:=(cJ.c1 bi).t6
 refine av u (nq ?_)
 obtain⟨ak,fL,fM⟩:=ob fD
 refine wc_cutg (fun E' w'=>∃bj bk bl am an ao ap aq ar X Y aa J,E'=[(0,pt g1),(2,pt D),(3,pt o)]∧SH w K Z w' J [obj g1 [V3 bj bk bl,V6 ak.1.p_] 208,obj D [V3 none 0 0,V3 none 0 0,V3 none 0 0] 36,obj o [V3 am an ao,V3 ap aq ar,V3 X Y aa] 36,tail (V3 X Y aa) 73 3]∧KLe bI J∧SliceAt tU8 J bj bk bl ak.1.b_∧rng64 ak.1.p_∧SliceAt tStr J am an ao ak.2.Conf.Stops∧SliceAt tGSyn J ap aq ar ak.2.Conf.Syns∧SliceAt tGLive J X Y aa ak.2.Segs) ?_ ?_
 ·refine wc_block ?_
  obtain⟨iD,fN,fO⟩:=ob fL
  have fP:=fK.f2.f2.f5.f3.sb (sk (sk (sk (sk (sd (sd sz))))))
  refine qw (fun (C:Int×GL30Rd×GIndex) E' w'=>∃bm bn bo q s v x y B d f i O,E'=[(0,pt g1),(2,pt D),(3,pt o),(4,V6 C.1)]∧SH w K Z w' O [obj g1 [V3 bm bn bo,V6 C.2.1.p_] 208,obj D [V3 none 0 0,V3 none 0 0,V3 none 0 0] 36,obj o [V3 q s v,V3 x y B,V3 d f i] 36,tail (V3 d f i) 73 3]∧KLe bI O∧rng64 C.1∧SliceAt tU8 O bm bn bo C.2.1.b_∧rng64 C.2.1.p_∧SliceAt tStr O q s v C.2.2.Conf.Stops∧SliceAt tGSyn O x y B C.2.2.Conf.Syns∧SliceAt tGLive O d f i C.2.2.Segs) fN ⟨fE,fF,fG,cz,cA,cB,cC,cD,cE,cF,cG,cH,bI,u,fP,kr,fH,fI,fJ,(fv.mono bi.le),(fw.mono bi.le),(fx.mono bi.le)⟩ ?_
  rintro C _ iE iF fQ fR ⟨bm,bn,bo,q,s,v,x,y,B,d,f,i,O,rfl,bJ,bp,iG,cK,cL,G,H,I⟩
  refine wc_seq (sr (mv u (lv (rv_gtr u u) (nq (wcc fQ u (fun fS bK=>?_) (fun fS bK=>?_))))))
  ·refine wc_skip (qs (wc_block (sr (mv u ?_))))
   obtain⟨iH,fT,fU⟩:=ob bK
   refine lk co106 (ok_spec_l30Rd_pick F bJ.e1 cK cL (by decide :rng64 5) fT) ?_
   rintro iI iJ ⟨iK,iL,iM,au,rfl,c,iN,aw,ax⟩
   have bL:=(bJ.c1 c).t4
   refine nq (wc_block (sr (lv (rv_eql u u) (av u (nq (wcc fU u (fun fV bM=>?_) (fun fV bM=>?_)))))))
   ·refine wc_seq ?_
    obtain⟨ay,fW,fX⟩:=ob bM
    refine wc_cutg (fun E' w'=>∃bN az aA aB aC aD aE ab ac ad bq br bs R,E'=[(0,pt g1),(2,pt D),(3,pt o),(4,V6 C.1),(5,pt bN)]∧SH w K Z w' R [obj bN [V3 az aA aB,V3 aC aD aE,V3 ab ac ad] 36,tail (V3 ab ac ad) 73 3,obj g1 [V3 bq br bs,V6 ay.2.p_] 208,obj D [V3 none 0 0,V3 none 0 0,V3 none 0 0] 36,obj o [V3 q s v,V3 x y B,V3 d f i] 36,tail (V3 d f i) 73 3]∧KLe au R∧SliceAt tStr R az aA aB ay.1.Conf.Stops∧SliceAt tGSyn R aC aD aE ay.1.Conf.Syns∧SliceAt tGLive R ab ac ad ay.1.Segs∧SliceAt tU8 R bq br bs ay.2.b_∧rng64 ay.2.p_) ?_ ?_
    ·obtain⟨iO,cM,fY⟩:=ob fW
     obtain⟨iP,bO,bP⟩:=ob fY
     have aW:=bL.drew
     refine j_0 (fun w'=>Holds au w'∧HasObj o [V3 q s v,V3 x y B,V3 d f i] w') 11 [] mixed ⟨aW.hasK kr,aW.hasObj m2⟩ (jh 0 u (fun _ h=>rh_loadmS (ds:=[V3 q s v,V3 x y B,V3 d f i]) tf36 u u u h.2) (jv 1 u (rv_move u) (j2 2 8 u u ?_ ?_)))
     ·refine lk co106 (ok_spec_l30Rd_pick F aW.e1 aw ax (by decide :rng64 8) cM) ?_
      rintro iQ iR ⟨cN,cO,cP,iS,rfl,k,iT,cQ,cR⟩
      have aX:=(aW.c1 k).t4
      refine j_o ⟨aX.hasK k.le,aX.hasObj m2⟩ (jv 3 u (rv_add u u) (j2 4 8 u u ?_ ?_))
      ·refine lk co52 (ok_spec_IndexDrop F aX.enter0 (G.mono (c.le.trans k.le)) (H.mono (c.le.trans k.le)) (I.mono (c.le.trans k.le)) (w64_rng _) bO) ?_
       rintro iU iV ⟨cS,cT,cU,cV,cW,cX,cY,cZ,da,fZ,rfl,aF,ga,gb,gc⟩
       have bQ:=(aX.c0 aF).t5
       refine j_o ⟨bQ.hasK (k.le.trans aF.le),bQ.hasObj m3⟩ (jv 5 u (rv_move u) (jv 6 u (rv_extract u u) (jv 7 u (rv_extract u u) (j1 8 u (al tf36 bQ fun db iW gd=>?_)))))
       have bR:SH _ _ _ _ _ [obj db [V3 none 0 0,V3 none 0 0,V3 none 0 0] 36,_,_,_,_,_]:=gd
       refine j_o ⟨bR.hasK (k.le.trans aF.le),bR.hasObj m4⟩ (j1 9 u (lw [V3 cS cT cU,V3 cV cW cX,V3 cY cZ da] tf36 bR fun iX bS=>(j_o ⟨bS.hasK (k.le.trans aF.le),bS.hasObj m4⟩ (jv 10 u (rv_assign u) (jd ?_)))))
       cases oi bP
       exact qd ⟨db,cS,cT,cU,cV,cW,cX,cY,cZ,da,cN,cO,cP,fZ,u,bS,(k.le.trans aF.le),ga,gb,gc,(cQ.mono aF.le),cR⟩
      refine al tf36 aX fun dc iY ge=>?_
      have bu:SH _ _ _ _ _ [obj dc [V3 none 0 0,V3 none 0 0,V3 none 0 0] 36,_,_,_,_]:=ge
      refine j_o ⟨bu.hasK k.le,bu.hasObj m3⟩ (j1 4 u (lk co52 (ok_spec_IndexDrop F bu.enter0 (G.mono (c.le.trans k.le)) (H.mono (c.le.trans k.le)) (I.mono (c.le.trans k.le)) (w64_rng _) bO) ?_))
      rintro iZ ja ⟨dd,de,df,dg,dh,di,dj,dk,dl,gg,rfl,aY,gj,gk,gl⟩
      have bT:=(bu.c0 aY).t6
      refine j_o ⟨bT.hasK (k.le.trans aY.le),bT.hasObj m4⟩ (jv 5 u (rv_move u) (jv 6 u (rv_extract u u) (jv 7 u (rv_extract u u) (j1 9 u (lw [V3 dd de df,V3 dg dh di,V3 dj dk dl] tf36 bT.f1 fun jb bU=>(j_o ⟨bU.hasK (k.le.trans aY.le),bU.hasObj m4⟩ (jv 10 u (rv_assign u) (jd ?_))))))))
      cases oi bP
      exact qd ⟨dc,dd,de,df,dg,dh,di,dj,dk,dl,cN,cO,cP,gg,u,bU,(k.le.trans aY.le),gj,gk,gl,(cQ.mono aY.le),cR⟩
     refine al tf36 aW fun dm jc gm=>?_
     have bV:SH _ _ _ _ _ [obj dm [V3 none 0 0,V3 none 0 0,V3 none 0 0] 36,_,_,_,_]:=gm
     refine j_o ⟨bV.hasK kr,bV.hasObj m3⟩ (j1 2 u ?_)
     have dn:=bV.f1
     refine lk co106 (ok_spec_l30Rd_pick F dn.e1 aw ax (by decide :rng64 8) cM) ?_
     rintro je jj ⟨go,gp,gq,jl,rfl,S,jm,gr,gv⟩
     have bv:=(dn.c1 S).t5
     refine j_o ⟨bv.hasK S.le,bv.hasObj m3⟩ (jv 3 u (rv_add u u) (j1 4 u (lk co52 (ok_spec_IndexDrop F bv.enter0 (G.mono (c.le.trans S.le)) (H.mono (c.le.trans S.le)) (I.mono (c.le.trans S.le)) (w64_rng _) bO) ?_)))
     rintro jo jp ⟨dp,dq,dr,dt,du,dv,dw,dx,dy,gw,rfl,aZ,gx,gy,gz⟩
     have bW:=(bv.c0 aZ).t6
     refine j_o ⟨bW.hasK (S.le.trans aZ.le),bW.hasObj m4⟩ (jv 5 u (rv_move u) (jv 6 u (rv_extract u u) (jv 7 u (rv_extract u u) (j1 9 u (lw [V3 dp dq dr,V3 dt du dv,V3 dw dx dy] tf36 bW.f2 fun jq bX=>(j_o ⟨bX.hasK (S.le.trans aZ.le),bX.hasObj m4⟩ (jv 10 u (rv_assign u) (jd ?_))))))))
     cases oi bP
     exact qd ⟨dm,dp,dq,dr,dt,du,dv,dw,dx,dy,go,gp,gq,gw,u,bX,(S.le.trans aZ.le),gx,gy,gz,(gr.mono aZ.le),gv⟩
    rintro _ jr ⟨bN,az,aA,aB,aC,aD,aE,ab,ac,ad,bq,br,bs,R,rfl,dz,gA,gB,gC,gD,gE,gF⟩
    refine qe_seq (wc_region (lv (rv_loadmS (ds:=[V3 az aA aB,V3 aC aD aE,V3 ab ac ad]) tf36 u m0 dz u u) (lw [V3 az aA aB,V3 aC aD aE,V3 ab ac ad] tf36 dz.f4 fun jt gG=>(nb (qe_block (qe_seq (wc_region (mv u (lv (rv_sub u u) ?_)))))))))
    refine av u (wl_nil ?_)
    cases oi fX
    exact qd ⟨_,u,bq,br,bs,az,aA,aB,aC,aD,aE,ab,ac,ad,R,u,gG.f2.f1.f4.f4.s,((bp.trans c.le).trans gA),(w64_rng _),gE,gF,gB,gC,gD⟩
   refine sr (lv (rv_eql u u) (av u (nq (wcc bM u (fun gH bY=>?_) (fun gH bY=>?_)))))
   ·refine wc_seq ?_
    obtain⟨aG,gI,gJ⟩:=ob bY
    refine wc_cutg (fun E' w'=>∃bZ aH aI aJ aK aL aM ae af ag bx bz bA T,E'=[(0,pt g1),(2,pt D),(3,pt o),(4,V6 C.1),(7,pt bZ)]∧SH w K Z w' T [obj bZ [V3 aH aI aJ,V3 aK aL aM,V3 ae af ag] 36,tail (V3 ae af ag) 73 3,obj g1 [V3 bx bz bA,V6 aG.2.p_] 208,obj D [V3 none 0 0,V3 none 0 0,V3 none 0 0] 36,obj o [V3 q s v,V3 x y B,V3 d f i] 36,tail (V3 d f i) 73 3]∧KLe au T∧SliceAt tStr T aH aI aJ aG.1.Conf.Stops∧SliceAt tGSyn T aK aL aM aG.1.Conf.Syns∧SliceAt tGLive T ae af ag aG.1.Segs∧SliceAt tU8 T bx bz bA aG.2.b_∧rng64 aG.2.p_) ?_ ?_
    ·obtain⟨jw,dA,gK⟩:=ob gI
     obtain⟨jx,ca,cb⟩:=ob gK
     have ba:=bL.drew
     refine j_0 (fun w'=>Holds au w'∧HasObj o [V3 q s v,V3 x y B,V3 d f i] w') 10 [] mixed ⟨ba.hasK kr,ba.hasObj m2⟩ (jh 0 u (fun _ h=>rh_loadmS (ds:=[V3 q s v,V3 x y B,V3 d f i]) tf36 u u u h.2) (jv 1 u (rv_move u) (j2 2 7 u u ?_ ?_)))
     ·refine lk co106 (ok_spec_l30Rd_pick F ba.e1 aw ax (by decide :rng64 3) dA) ?_
      rintro jy jz ⟨dB,dC,dD,jA,rfl,l,dE,dF,dG⟩
      have bb:=(ba.c1 l).t4
      refine j_o ⟨bb.hasK l.le,bb.hasObj m2⟩ (j2 3 7 u u ?_ ?_)
      ·refine lk co48 (ok_spec_IndexMerge F bb.enter0 (G.mono (c.le.trans l.le)) (H.mono (c.le.trans l.le)) (I.mono (c.le.trans l.le)) dE ca) ?_
       rintro jB jC ⟨dH,dI,dJ,dK,dL,dM,dN,dO,dP,gL,rfl,aN,gM,gN,gO⟩
       have cc:=(bb.c0 aN).t5
       refine j_o ⟨cc.hasK (l.le.trans aN.le),cc.hasObj m3⟩ (jv 4 u (rv_move u) (jv 5 u (rv_extract u u) (jv 6 u (rv_extract u u) (j1 7 u (al tf36 cc fun dQ jD gP=>?_)))))
       have cd:SH _ _ _ _ _ [obj dQ [V3 none 0 0,V3 none 0 0,V3 none 0 0] 36,_,_,_,_,_]:=gP
       refine j_o ⟨cd.hasK (l.le.trans aN.le),cd.hasObj m4⟩ (j1 8 u (lw [V3 dH dI dJ,V3 dK dL dM,V3 dN dO dP] tf36 cd fun jE ce=>(j_o ⟨ce.hasK (l.le.trans aN.le),ce.hasObj m4⟩ (jv 9 u (rv_assign u) (jd ?_)))))
       cases oi cb
       exact qd ⟨dQ,dH,dI,dJ,dK,dL,dM,dN,dO,dP,dB,dC,dD,gL,u,ce,(l.le.trans aN.le),gM,gN,gO,(dF.mono aN.le),dG⟩
      refine al tf36 bb fun dR jF gQ=>?_
      have bB:SH _ _ _ _ _ [obj dR [V3 none 0 0,V3 none 0 0,V3 none 0 0] 36,_,_,_,_]:=gQ
      refine j_o ⟨bB.hasK l.le,bB.hasObj m3⟩ (j1 3 u (lk co48 (ok_spec_IndexMerge F bB.enter0 (G.mono (c.le.trans l.le)) (H.mono (c.le.trans l.le)) (I.mono (c.le.trans l.le)) dE ca) ?_))
      rintro jG jH ⟨dS,dT,dU,dV,dW,dX,dY,dZ,ea,gR,rfl,bc,gS,gT,gU⟩
      have cf:=(bB.c0 bc).t6
      refine j_o ⟨cf.hasK (l.le.trans bc.le),cf.hasObj m4⟩ (jv 4 u (rv_move u) (jv 5 u (rv_extract u u) (jv 6 u (rv_extract u u) (j1 8 u (lw [V3 dS dT dU,V3 dV dW dX,V3 dY dZ ea] tf36 cf.f1 fun jI cg=>(j_o ⟨cg.hasK (l.le.trans bc.le),cg.hasObj m4⟩ (jv 9 u (rv_assign u) (jd ?_))))))))
      cases oi cb
      exact qd ⟨dR,dS,dT,dU,dV,dW,dX,dY,dZ,ea,dB,dC,dD,gR,u,cg,(l.le.trans bc.le),gS,gT,gU,(dF.mono bc.le),dG⟩
     refine al tf36 ba fun eb jJ gV=>?_
     have ch:SH _ _ _ _ _ [obj eb [V3 none 0 0,V3 none 0 0,V3 none 0 0] 36,_,_,_,_]:=gV
     refine j_o ⟨ch.hasK kr,ch.hasObj m3⟩ (j1 2 u ?_)
     have ec:=ch.f1
     refine lk co106 (ok_spec_l30Rd_pick F ec.e1 aw ax (by decide :rng64 3) dA) ?_
     rintro jK jL ⟨gW,gX,gY,jM,rfl,U,gZ,hb,hc⟩
     have bC:=(ec.c1 U).t5
     refine j_o ⟨bC.hasK U.le,bC.hasObj m3⟩ (j1 3 u (lk co48 (ok_spec_IndexMerge F bC.enter0 (G.mono (c.le.trans U.le)) (H.mono (c.le.trans U.le)) (I.mono (c.le.trans U.le)) gZ ca) ?_))
     rintro jN jO ⟨ed,ee,ef,eg,eh,ei,ej,ek,el,hd,rfl,bd,he,hf,hg⟩
     have cj:=(bC.c0 bd).t6
     refine j_o ⟨cj.hasK (U.le.trans bd.le),cj.hasObj m4⟩ (jv 4 u (rv_move u) (jv 5 u (rv_extract u u) (jv 6 u (rv_extract u u) (j1 8 u (lw [V3 ed ee ef,V3 eg eh ei,V3 ej ek el] tf36 cj.f2 fun jP ck=>(j_o ⟨ck.hasK (U.le.trans bd.le),ck.hasObj m4⟩ (jv 9 u (rv_assign u) (jd ?_))))))))
     cases oi cb
     exact qd ⟨eb,ed,ee,ef,eg,eh,ei,ej,ek,el,gW,gX,gY,hd,u,ck,(U.le.trans bd.le),he,hf,hg,(hb.mono bd.le),hc⟩
    rintro _ jQ ⟨bZ,aH,aI,aJ,aK,aL,aM,ae,af,ag,bx,bz,bA,T,rfl,em,hh,hi,hj,hk,hn,ho⟩
    refine qe_seq (wc_region (lv (rv_loadmS (ds:=[V3 aH aI aJ,V3 aK aL aM,V3 ae af ag]) tf36 u m0 em u u) (lw [V3 aH aI aJ,V3 aK aL aM,V3 ae af ag] tf36 em.f4 fun jR hp=>(nb (qe_block (qe_seq (wc_region (mv u (lv (rv_sub u u) ?_)))))))))
    refine av u (wl_nil ?_)
    cases oi gJ
    exact qd ⟨_,u,bx,bz,bA,aH,aI,aJ,aK,aL,aM,ae,af,ag,T,u,hp.f2.f1.f4.f4.s,((bp.trans c.le).trans hh),(w64_rng _),hn,ho,hi,hj,hk⟩
   refine wc_seq ?_
   obtain⟨aO,hq,hr⟩:=ob bY
   refine wc_cutg (fun E' w'=>∃cl aP aQ aR aS aT aU ah ai aj bD bE bF V,E'=[(0,pt g1),(2,pt D),(3,pt o),(4,V6 C.1),(9,pt cl)]∧SH w K Z w' V [obj cl [V3 aP aQ aR,V3 aS aT aU,V3 ah ai aj] 36,tail (V3 ah ai aj) 73 3,obj g1 [V3 bD bE bF,V6 aO.2.p_] 208,obj D [V3 none 0 0,V3 none 0 0,V3 none 0 0] 36,obj o [V3 q s v,V3 x y B,V3 d f i] 36,tail (V3 d f i) 73 3]∧KLe au V∧SliceAt tStr V aP aQ aR aO.1.Conf.Stops∧SliceAt tGSyn V aS aT aU aO.1.Conf.Syns∧SliceAt tGLive V ah ai aj aO.1.Segs∧SliceAt tU8 V bD bE bF aO.2.b_∧rng64 aO.2.p_) ?_ ?_
   ·obtain⟨jS,en,ht⟩:=ob hq
    obtain⟨jT,cm,cn⟩:=ob ht
    have be:=bL.drew
    refine j_0 (fun w'=>Holds au w'∧HasObj o [V3 q s v,V3 x y B,V3 d f i] w') 10 [] mixed ⟨be.hasK kr,be.hasObj m2⟩ (jh 0 u (fun _ h=>rh_loadmS (ds:=[V3 q s v,V3 x y B,V3 d f i]) tf36 u u u h.2) (jv 1 u (rv_move u) (j2 2 7 u u ?_ ?_)))
    ·refine lk co181 (ok_spec_l30Docs F be.e1 aw ax en) ?_
     rintro jU jV ⟨jW,jX,jY,eo,ep,eq,jZ,rfl,m,es,et,eu⟩
     have bf:=(be.c1 m).t5
     refine j_o ⟨bf.hasK m.le,bf.hasObj m3⟩ (j2 3 7 u u ?_ ?_)
     ·refine lk co55 (ok_spec_IndexAdd F bf.enter0 (G.mono (c.le.trans m.le)) (H.mono (c.le.trans m.le)) (I.mono (c.le.trans m.le)) es cm) ?_
      rintro ka kb ⟨ev,ew,ex,eA,eB,eC,eD,eE,eF,hu,rfl,aV,hv,hw,hx⟩
      have cp:=(bf.c0 aV).t6
      refine j_o ⟨cp.hasK (m.le.trans aV.le),cp.hasObj m4⟩ (jv 4 u (rv_move u) (jv 5 u (rv_extract u u) (jv 6 u (rv_extract u u) (j1 7 u (al tf36 cp fun eG ke hy=>?_)))))
      have cq:SH _ _ _ _ _ [obj eG [V3 none 0 0,V3 none 0 0,V3 none 0 0] 36,_,_,_,_,_,_]:=hy
      refine j_o ⟨cq.hasK (m.le.trans aV.le),cq.hasObj m5⟩ (j1 8 u (lw [V3 ev ew ex,V3 eA eB eC,V3 eD eE eF] tf36 cq fun kf cr=>(j_o ⟨cr.hasK (m.le.trans aV.le),cr.hasObj m5⟩ (jv 9 u (rv_assign u) (jd ?_)))))
      cases oi cn
      exact qd ⟨eG,ev,ew,ex,eA,eB,eC,eD,eE,eF,eo,ep,eq,hu,u,cr.s,(m.le.trans aV.le),hv,hw,hx,(et.mono aV.le),eu⟩
     refine al tf36 bf fun eH ki hz=>?_
     have bG:SH _ _ _ _ _ [obj eH [V3 none 0 0,V3 none 0 0,V3 none 0 0] 36,_,_,_,_,_]:=hz
     refine j_o ⟨bG.hasK m.le,bG.hasObj m4⟩ (j1 3 u (lk co55 (ok_spec_IndexAdd F bG.enter0 (G.mono (c.le.trans m.le)) (H.mono (c.le.trans m.le)) (I.mono (c.le.trans m.le)) es cm) ?_))
     rintro kj kk ⟨eI,eJ,eK,eL,eM,eN,eO,eP,eQ,hA,rfl,bg,hB,hC,hD⟩
     have cs:=(bG.c0 bg).t7
     refine j_o ⟨cs.hasK (m.le.trans bg.le),cs.hasObj m5⟩ (jv 4 u (rv_move u) (jv 5 u (rv_extract u u) (jv 6 u (rv_extract u u) (j1 8 u (lw [V3 eI eJ eK,V3 eL eM eN,V3 eO eP eQ] tf36 cs.f1 fun kl ct=>(j_o ⟨ct.hasK (m.le.trans bg.le),ct.hasObj m5⟩ (jv 9 u (rv_assign u) (jd ?_))))))))
     cases oi cn
     exact qd ⟨eH,eI,eJ,eK,eL,eM,eN,eO,eP,eQ,eo,ep,eq,hA,u,ct.s,(m.le.trans bg.le),hB,hC,hD,(et.mono bg.le),eu⟩
    refine al tf36 be fun eR ko hE=>?_
    have cu:SH _ _ _ _ _ [obj eR [V3 none 0 0,V3 none 0 0,V3 none 0 0] 36,_,_,_,_]:=hE
    refine j_o ⟨cu.hasK kr,cu.hasObj m3⟩ (j1 2 u ?_)
    have eS:=cu.f1
    refine lk co181 (ok_spec_l30Docs F eS.e1 aw ax en) ?_
    rintro kp kq ⟨ks,kt,kw,hF,hG,hH,kx,rfl,W,hI,hJ,hK⟩
    have bH:=(eS.c1 W).t6
    refine j_o ⟨bH.hasK W.le,bH.hasObj m4⟩ (j1 3 u (lk co55 (ok_spec_IndexAdd F bH.enter0 (G.mono (c.le.trans W.le)) (H.mono (c.le.trans W.le)) (I.mono (c.le.trans W.le)) hI cm) ?_))
    rintro ky kz ⟨eT,eU,eV,eW,eX,eY,eZ,fb,fc,hL,rfl,bh,hM,hN,hO⟩
    have cv:=(bH.c0 bh).t7
    refine j_o ⟨cv.hasK (W.le.trans bh.le),cv.hasObj m5⟩ (jv 4 u (rv_move u) (jv 5 u (rv_extract u u) (jv 6 u (rv_extract u u) (j1 8 u (lw [V3 eT eU eV,V3 eW eX eY,V3 eZ fb fc] tf36 cv.f3 fun kA cw=>(j_o ⟨cw.hasK (W.le.trans bh.le),cw.hasObj m5⟩ (jv 9 u (rv_assign u) (jd ?_))))))))
    cases oi cn
    exact qd ⟨eR,eT,eU,eV,eW,eX,eY,eZ,fb,fc,hF,hG,hH,hL,u,cw.s,(W.le.trans bh.le),hM,hN,hO,(hJ.mono bh.le),hK⟩
   rintro _ kB ⟨cl,aP,aQ,aR,aS,aT,aU,ah,ai,aj,bD,bE,bF,V,rfl,fd,hP,hQ,hR,hT,hU,hV⟩
   refine qe_seq (wc_region (lv (rv_loadmS (ds:=[V3 aP aQ aR,V3 aS aT aU,V3 ah ai aj]) tf36 u m0 fd u u) (lw [V3 aP aQ aR,V3 aS aT aU,V3 ah ai aj] tf36 fd.f4 fun kC hW=>(nb (qe_block (qe_seq (wc_region (mv u (lv (rv_sub u u) ?_)))))))))
   refine av u (wl_nil ?_)
   cases oi hr
   exact qd ⟨_,u,bD,bE,bF,aP,aQ,aR,aS,aT,aU,ah,ai,aj,V,u,hW.f2.f1.f4.f4.s,((bp.trans c.le).trans hP),(w64_rng _),hU,hV,hQ,hR,hT⟩
  refine wc_exit (qe_then_exit (qe_then_exit ?_))
  cases oi bK
  cases fR _ u
  refine qe_block_eq ?_
  cases oi fO
  exact qd ⟨bm,bn,bo,q,s,v,x,y,B,d,f,i,O,u,bJ,bp,cK,cL,G,H,I⟩
 rintro _ kD ⟨bj,bk,bl,am,an,ao,ap,aq,ar,X,Y,aa,J,rfl,fe,kE,hX,hY,hZ,ia,ib⟩
 refine qr (lv (rv_loadmS (ds:=[V3 am an ao,V3 ap aq ar,V3 X Y aa]) tf36 u m2 fe u u) (lw [V3 am an ao,V3 ap aq ar,V3 X Y aa] tf36 fe.f1 fun kF fg=>(nq (wc_ret ?_))))
 cases oi fM
 exact ez results169 tf36 fg m0 ⟨am,an,ao,ap,aq,ar,X,Y,aa,bj,bk,bl,J,u,fg.f1.f3.s,hZ,ia,ib,hX,hY⟩

theorem ok_spec_l30Rd_one {q0:GL30Rd}{q1:List Int}{r:Int×GL30Rd}(hS:SH w K Z w K [obj g1 [V3 A a b,V6 q0.p_] 208])(l:SliceAt tU8 K A a b q0.b_)(m:rng64 q0.p_)(f:SliceAt tInt K B c d q1)(hm:M.spec_l30Rd_one F q0 q1=some r):
  Calls prog 170 #[.pointer (some ⟨g1,0,none⟩),V3 B c d] w fun e w'=>∃a_2 n_3 c_4 K',e= .returned (V6 r.1)∧SH w K Z w' K' [obj g1 [V3 a_2 n_3 c_4,V6 r.2.p_] 208]∧rng64 r.1∧SliceAt tU8 K' a_2 n_3 c_4 r.2.b_∧rng64 r.2.p_:=by
 rw [M.spec_l30Rd_one] at hm
 refine ci func170 u ntmps170 (sr (lv (r_0 u) (nr (mv u (mv u (mv u (lv (rv_len underlying71 u f) ?_)))))))
 obtain⟨W,o,q⟩:=ob hm
 refine lk co106 (ok_spec_l30Rd_pick F hS.e1 l m f.rn o) ?_
 rintro X Y ⟨s,x,y,C,rfl,i,aa,D,G⟩
 have k:=(hS.c1 i).t1
 obtain⟨H,I,J⟩:=ob q
 refine li underlying71 tf3 (f.mono i.le) I fun O R ab S T=>?_
 obtain⟨rfl,U⟩:=S
 have V:AtK _ O R [V6 H]:=T
 refine lv (rv_load1 tf3 u k (V 0 _ u)) (av u (nq (wc_ret ?_)))
 cases oi J
 exact ey results170 ⟨s,x,y,C,u,k,U,D,G⟩

theorem ok_spec_l30AnyIndex {q0:GL30Rd}{r:GIndex×GL30Rd}(hS:SH w K Z w K [obj g1 [V3 A a b,V6 q0.p_] 208])(bV:SliceAt tU8 K A a b q0.b_)(bW:rng64 q0.p_)(hm:M.spec_l30AnyIndex F q0=some r):
  Calls prog 103 #[.pointer (some ⟨g1,0,none⟩)] w fun e w'=>∃a_1 n_2 c_3 a_5 n_6 c_7 a_9 n_10 c_11 a_13 n_14 c_15 K',e= .returned (.agg #[V3 a_1 n_2 c_3,V3 a_5 n_6 c_7,V3 a_9 n_10 c_11])∧SH w K Z w' K' [tail (V3 a_9 n_10 c_11) 73 3,obj g1 [V3 a_13 n_14 c_15,V6 r.2.p_] 208]∧SliceAt tStr K' a_1 n_2 c_3 r.1.Conf.Stops∧SliceAt tGSyn K' a_5 n_6 c_7 r.1.Conf.Syns∧SliceAt tGLive K' a_9 n_10 c_11 r.1.Segs∧SliceAt tU8 K' a_13 n_14 c_15 r.2.b_∧rng64 r.2.p_:=by
 rw [M.spec_l30AnyIndex] at hm
 refine ci func103 rfl ntmps103 (sr (al tf36 hS fun g7 w9 bY=>?_))
 have bZ:SH _ _ _ _ _ [obj g7 [V3 none 0 0,V3 none 0 0,V3 none 0 0] 36,_]:=bY
 refine nr (mv rfl ?_)
 obtain⟨eK,ca,cb⟩:=ob hm
 have bp:=bZ.f1
 refine lk co169 (ok_spec_l30Index F bp.e1 bV bW ca) ?_
 rintro eL eM ⟨eN,eO,eP,eQ,eR,eS,eT,eU,eV,cc,cd,ce,eW,rfl,cf,cg,ch,cj,bq,br⟩
 have bs:=(bp.c1 cf).t3
 obtain⟨eX,ck,cl⟩:=ob cb
 refine lk co110 ((own_spec_l18Copy F) bs.enter0 cg ch cj ck) ?_
 rintro eY eZ ⟨c,f,i,k,l,m,o,x,y,cs55,fb,rfl,aQ,S,T,hrow56,hm57⟩
 have cm:=(bs.c0 aQ).t5
 refine al tf36 cm fun aq fc cn=>?_
 have cp:SH _ _ _ _ _ [obj aq [V3 none 0 0,V3 none 0 0,V3 none 0 0] 36,_,_,_,_,_]:=cn
 refine lw [V3 c f i,V3 k l m,V3 o x y] tf36 cp fun fd R=>(nsr (fl ff36_1 rfl tf34 m0 R rfl (lv (rv_lenRow underlying34 rfl hm57) (lv (rv_gtr rfl rfl) (nq (wcc cl rfl (fun cq aR=>?_) (fun cq aR=>?_)))))))
 ·refine sr (mv rfl (fl ff36_1 rfl tf34 m0 R rfl (lv (rv_lenRow underlying34 rfl hm57) ?_)))
  obtain⟨H,cr,ct⟩:=ob aR
  have bu:=R.f4
  refine lk co106 (ok_spec_l30Rd_pick F bu.e1 (bq.mono aQ.le) br (rng_nat (rowI_max R m1 hm57)) cr) ?_
  rintro fe fg ⟨fh,fi,fj,fk,rfl,q,fm,cu,cv⟩
  have bv:=(bu.c1 q).t6
  refine av rfl (nr (mv rfl ?_))
  obtain⟨fn,cw,cx⟩:=ob ct
  refine lk co106 (ok_spec_l30Rd_pick F bv.e1 cu cv (by decide :rng64 16) cw) ?_
  rintro fo fp ⟨aS,aT,aU,aV,rfl,s,fq,ar,au⟩
  have U:=(bv.c1 s).t6
  refine nq (wc_block (sr (lv (rv_eql rfl rfl) (av rfl (nq (wcc cx rfl (fun cy aW=>?_) (fun cy aW=>?_)))))))
  ·have V:=U.drew
   refine wh1 (fun w'=>Holds aV w'∧HasObj aq [V3 c f i,V3 k l m,V3 o x y] w') (fun w'=>HasRow o cs55 w') 16 [(8,13),(8,14),(8,15),(8,16),(13,14),(13,15),(13,16),(14,15),(15,16)] mixed ⟨V.hasK kr,V.hasObj m1⟩ (fun _=>V.hasRow (.tail _ (.tail _ (.head _)))) (gt (rv_fieldAddr ff36_1 rfl) (gh (fun _ h=>rh_loadm1 tf34 rfl rfl h.2) (gt (rv_move rfl) (gt (rv_fieldAddr ff36_1 rfl) (gh (fun _ h=>rh_loadm1 tf34 rfl rfl h.2) (gt (rv_move rfl) ?_))))))
   obtain⟨fr,aX,cz⟩:=ob aW
   obtain⟨fs,bx⟩:=SH.rowI_at V m2 hm57 aX
   obtain⟨ft,cA,cB⟩:=RowAt.at (RowAt.mono (q.le.trans s.le) hrow56) aX
   obtain⟨cC,cD,cE,cF,cG,cH,cI,cJ,cK,rfl,fu,fv,cL⟩:=cA
   have bz: ∀(j:Nat) (d:Value),[V3 cC cD cE,V3 cF cG cH,V3 cI cJ cK][j]? =some d→cs55[H.1.toNat*tGLive.size+j]? =some d:=cB
   refine gt (rv_indexI (t:=tGLive) underlying34 tf73 rfl rfl bx hm57 aX) (gt (rv_fieldAddr ff73_1 rfl) (gf (fun _ h=>(rh_loadI1 tf71 rfl rfl (bz 2 _ rfl) bx h)) (gt (rv_move rfl) (gn (wl_buildSlice (t:=tInt) (n:=2) (pv:=[(0,V6 1),(1,V6 77)]) (cs:=[V6 1,V6 77]) (xs:=[(1:Int),(77:Int)]) wn rfl underlying71 tf3 rfl rfl rfl (by kernel_rfl) rfl rfl (lit_cons (u:=V6 1) (z:=(1:Int)) ⟨rfl,(by decide :rng64 1)⟩ (lit_cons (u:=V6 77) (z:=(77:Int)) ⟨rfl,(by decide :rng64 77)⟩ lit_nil)) V fun fw fx fy B cM aw=>(wl_nil (qh ⟨aw.hasK B,aw.hasObj m2⟩ (fun _=>aw.hasRow (.tail _ (.tail _ (.tail _ (.head _))))) (gn ?_))))))))
   obtain⟨aY,cN,cO⟩:=ob cz
   have bA:=aw.f1
   refine lk co170 (ok_spec_l30Rd_one F bA.e1 (ar.mono B) au cM cN) ?_
   rintro fz fA ⟨cP,cQ,cR,fB,rfl,C,cS,cT,cU⟩
   have ax:=(bA.c1 C).t7
   refine wl_nil (qh ⟨ax.hasK (B.trans C.le),ax.hasObj m2⟩ (fun _=>ax.hasRow (.tail _ (.tail _ (.tail _ (.head _))))) (gn (lb tInt (V6 aY.1) [V6 aY.1] aY.1 underlying71 tf3 ⟨rfl,cS⟩ ax fun fC fD fE D cV ay=>(wl_nil (qh ⟨ay.hasK ((B.trans C.le).trans D),ay.hasObj m3⟩ (fun _=>ay.hasRow (.tail _ (.tail _ (.tail _ (.tail _ (.head _)))))) (gn ?_))))))
   have cW:=SH.pickI ay.f5 bz
   obtain⟨bB,cX,cY⟩:=ob cO
   refine lp underlying71 tf3 (cL.mono ((B.trans C.le).trans D)) cV cX cW fun aZ ba bb fF fG I cZ W=>(wl_nil (qh ⟨W.hasK (((B.trans C.le).trans D).trans I),W.hasObj m4⟩ (fun _=>W.hasRow (.tail _ (.tail _ (.tail _ (.tail _ (.tail _ (.head _))))))) ?_))
   obtain⟨bC,X,da⟩:=ob cY
   obtain⟨fH,bD⟩:=SH.rowI_at W m5 hm57 X
   obtain⟨fI,db,dc⟩:=RowAt.at (RowAt.mono (((((q.le.trans s.le).trans B).trans C.le).trans D).trans I) hrow56) X
   obtain⟨az,aA,aB,aC,aD,aE,bE,bF,bG,rfl,dd,de,fJ⟩:=db
   have df: ∀(j:Nat) (d:Value),[V3 az aA aB,V3 aC aD aE,V3 bE bF bG][j]? =some d→cs55[H.1.toNat*tGLive.size+j]? =some d:=dc
   refine gt (rv_indexI (t:=tGLive) underlying34 tf73 rfl rfl bD hm57 X) (gt (rv_fieldAddr ff73_1 rfl) (gn (wl_storeI (t:=tGLive) (off:=2) (ds:=[V3 az aA aB,V3 aC aD aE,V3 bE bF bG]) (v:=V3 aZ ba bb) (u:=.agg #[V3 az aA aB,V3 aC aD aE,V3 aZ ba bb]) (e:=(GLive.mk bC.Seg bB)) wn tf71 rfl rfl rfl rfl (by simp [Value.cells,Value.oneCell']) bD W.f5 (RowAt.mono (((((q.le.trans s.le).trans B).trans C.le).trans D).trans I) hrow56) hm57 X df rfl rfl ⟨az,aA,aB,aC,aD,aE,aZ,ba,bb,rfl,dd,de,cZ⟩ fun cs185 fK hrow187 hm188 aF=>?_)))
   have dg:=getI_set (e:=(GLive.mk bC.Seg bB)) X
   obtain⟨fL,dh,di⟩:=RowAt.at hrow187 dg
   obtain⟨dj,dk,dl,dm,dn,dp,dq,dr,dt,rfl,fM,fN,fO⟩:=dh
   have fP: ∀(j:Nat) (d:Value),[V3 dj dk dl,V3 dm dn dp,V3 dq dr dt][j]? =some d→cs185[H.1.toNat*tGLive.size+j]? =some d:=di
   refine wl_nil (qh ⟨aF.hasK (((B.trans C.le).trans D).trans I),aF.hasObj m5⟩ (fun h=>nomatch h) (gd' (qe_block (qr (lv (rv_loadmS (ds:=[V3 c f i,V3 k l m,V3 o x y]) tf36 rfl m5 aF rfl rfl) (lw [V3 c f i,V3 k l m,V3 o x y] tf36 aF.f7 fun fQ du=>(nq (wc_ret ?_))))))))
   obtain⟨dv,bc,dw,bH⟩:=SH.freezeI du.f1 hrow187 hm188
   cases oi da
   exact ez results103 tf36 bH m1 ⟨c,f,i,k,l,m,o,x,y,cP,cQ,cR,dv,rfl,bH.s,(SliceAt.mono ((((((q.le.trans s.le).trans B).trans C.le).trans D).trans I).trans bc) S),(SliceAt.mono ((((((q.le.trans s.le).trans B).trans C.le).trans D).trans I).trans bc) T),dw,(cT.mono ((D.trans I).trans bc)),cU⟩
  refine sr (lv (rv_eql rfl rfl) (av rfl (nq (wcc aW rfl (fun dx bd=>?_) (fun dx bd=>?_)))))
  ·have Y:=U.drew
   refine wh1 (fun w'=>Holds aV w') (fun w'=>HasObj aq [V3 c f i,V3 k l m,V3 o x y] w'∧HasRow o cs55 w') 8 [(1,8),(3,5),(5,6),(6,7),(7,8)] mixed (Y.hasK kr) (fun _=>⟨Y.hasObj m1,Y.hasRow m2⟩) (gt (rv_fieldAddr ff36_1 rfl) (gf (fun _ h=>rh_loadm1 tf34 rfl rfl h.1) (gt (rv_fieldAddr ff36_1 rfl) (gf (fun _ h=>rh_loadm1 tf34 rfl rfl h.1) (gt (rv_move rfl) ?_)))))
   obtain⟨dy,be,dz⟩:=ob bd
   obtain⟨fR,bI⟩:=SH.rowI_at Y m2 hm57 be
   obtain⟨fS,dA,dB⟩:=RowAt.at (RowAt.mono (q.le.trans s.le) hrow56) be
   obtain⟨aa,ab,ac,ad,ae,af,ag,ah,ai,rfl,dC,dD,dE⟩:=dA
   have dF: ∀(j:Nat) (d:Value),[V3 aa ab ac,V3 ad ae af,V3 ag ah ai][j]? =some d→cs55[H.1.toNat*tGLive.size+j]? =some d:=dB
   refine gt (rv_indexI (t:=tGLive) underlying34 tf73 rfl rfl bI hm57 be) (gf (fun _ h=>(rh_loadIS (ds:=[V3 aa ab ac,V3 ad ae af,V3 ag ah ai]) tf73 rfl dF rfl bI h.2)) (gn (lb tGLive (.agg #[V3 aa ab ac,V3 ad ae af,V3 ag ah ai]) [V3 aa ab ac,V3 ad ae af,V3 ag ah ai] dy underlying34 tf73 ⟨aa,ab,ac,ad,ae,af,ag,ah,ai,rfl,dC,dD,dE⟩ Y fun fT fU fV J dG aG=>(wl_nil (qh (aG.hasK J) (fun _=>⟨aG.hasObj m2,aG.hasRow m3⟩) (gn ?_))))))
   obtain⟨fW,dH,dI⟩:=ob dz
   refine wl_appendR (t:=tGLive) wn rfl underlying34 tf73 rfl rfl rfl rfl (RowAt.mono ((q.le.trans s.le).trans J) hrow56) hm57 dG dH aG.f3 fun aj ak am cs254 fX hrow256 hm257 bJ=>(wl_nil (qh (bJ.hasK J) (fun h=>nomatch h) (gt (rv_fieldAddr ff36_1 rfl) (gn (ls [V3 c f i,V3 k l m,V3 aj ak am] (V3 aj ak am) tf34 bJ.f3 fun fY bf=>(wl_nil (qh (bf.hasK J) (fun h=>nomatch h) (gd' (qe_block (qr (lv (rv_loadmS (ds:=[V3 c f i,V3 k l m,V3 aj ak am]) tf36 rfl m0 bf rfl rfl) ?_)))))))))))
   refine lw [V3 c f i,V3 k l m,V3 aj ak am] tf36 bf.f6 fun fZ dJ=>(nq (wc_ret ?_))
   obtain⟨dK,bg,dL,bK⟩:=SH.freezeI dJ.f2 hrow256 hm257
   cases oi dI
   exact ez results103 tf36 bK m1 ⟨c,f,i,k,l,m,aj,ak,am,aS,aT,aU,dK,rfl,bK.s,(SliceAt.mono (((q.le.trans s.le).trans J).trans bg) S),(SliceAt.mono (((q.le.trans s.le).trans J).trans bg) T),dL,(ar.mono (J.trans bg)),au⟩
  refine sr (lv (rv_eql rfl rfl) (av rfl (nq (wcc bd rfl (fun dM bh=>?_) (fun dM bh=>?_)))))
  ·have an:=U.drew
   refine wh1 (fun w'=>Holds aV w'∧HasObj aq [V3 c f i,V3 k l m,V3 o x y] w') (fun w'=>HasRow o cs55 w') 16 [(9,12),(9,13),(9,14),(9,15),(9,16),(12,13),(12,14),(12,15),(12,16),(13,14),(14,15),(15,16)] mixed ⟨an.hasK kr,an.hasObj m1⟩ (fun _=>an.hasRow (.tail _ (.tail _ (.head _)))) (gt (rv_fieldAddr ff36_1 rfl) (gh (fun _ h=>rh_loadm1 tf34 rfl rfl h.2) (gt (rv_move rfl) (gt (rv_fieldAddr ff36_1 rfl) (gh (fun _ h=>rh_loadm1 tf34 rfl rfl h.2) (gt (rv_move rfl) ?_))))))
   obtain⟨ga,bi,dN⟩:=ob bh
   obtain⟨gb,bL⟩:=SH.rowI_at an m2 hm57 bi
   obtain⟨gc,dO,dP⟩:=RowAt.at (RowAt.mono (q.le.trans s.le) hrow56) bi
   obtain⟨dQ,dR,dS,dT,dU,dV,dW,dX,dY,rfl,gd,dZ,ge⟩:=dO
   have bM: ∀(j:Nat) (d:Value),[V3 dQ dR dS,V3 dT dU dV,V3 dW dX dY][j]? =some d→cs55[H.1.toNat*tGLive.size+j]? =some d:=dP
   refine gt (rv_indexI (t:=tGLive) underlying34 tf73 rfl rfl bL hm57 bi) (gt (rv_fieldAddr ff73_0 rfl) (gt (rv_fieldAddr ff46_1 rfl) (gf (fun _ h=>(rh_loadI1 tf44 rfl rfl (bM 1 _ rfl) bL h)) (gt (rv_build (cs:=#[sv [],sv [],V3 none 0 0]) sp116 tf116 rfl (by kernel_rfl)) (gn (lb tGEntry (.agg #[sv [],sv [],V3 none 0 0]) [sv [],sv [],V3 none 0 0] (GEntry.mk ([]:Str) ([]:Str) ([]:List GPost)) underlying44 tf116 ⟨none,0,0,rfl,(by decide :([]:Str).length≤maxLen),(by decide :([]:Str).length≤maxLen),(SliceAt.nil _ _)⟩ an fun gg gj gk G ea aH=>(wl_nil (qh ⟨aH.hasK G,aH.hasObj m2⟩ (fun _=>aH.hasRow (.tail _ (.tail _ (.tail _ (.head _))))) (gn ?_)))))))))
   have eb:=SH.pickE aH.f4 bM
   obtain⟨bN,ec,ed⟩:=ob dN
   refine lp underlying44 tf116 (dZ.mono G) ea ec eb fun bj bk bl gl gm O ee ao=>(wl_nil (qh ⟨ao.hasK (G.trans O),ao.hasObj m3⟩ (fun _=>ao.hasRow (.tail _ (.tail _ (.tail _ (.tail _ (.head _)))))) ?_))
   obtain⟨aI,ap,ef⟩:=ob ed
   obtain⟨go,bO⟩:=SH.rowI_at ao m4 hm57 ap
   obtain⟨gp,eg,eh⟩:=RowAt.at (RowAt.mono (((q.le.trans s.le).trans G).trans O) hrow56) ap
   obtain⟨aJ,aK,aL,bP,bQ,bR,aM,aN,aO,rfl,ei,gq,ej⟩:=eg
   have ek: ∀(j:Nat) (d:Value),[V3 aJ aK aL,V3 bP bQ bR,V3 aM aN aO][j]? =some d→cs55[H.1.toNat*tGLive.size+j]? =some d:=eh
   refine gt (rv_indexI (t:=tGLive) underlying34 tf73 rfl rfl bO hm57 ap) (gt (rv_fieldAddr ff73_0 rfl) (gt (rv_fieldAddr ff46_1 rfl) (gn (wl_storeI (t:=tGLive) (off:=1) (ds:=[V3 aJ aK aL,V3 bP bQ bR,V3 aM aN aO]) (v:=V3 bj bk bl) (u:=.agg #[V3 aJ aK aL,V3 bj bk bl,V3 aM aN aO]) (e:=(GLive.mk (GSeg.mk aI.Seg.Docs bN) aI.Dead)) wn tf44 rfl rfl rfl rfl (by simp [Value.cells,Value.oneCell']) bO ao.f4 (RowAt.mono (((q.le.trans s.le).trans G).trans O) hrow56) hm57 ap ek rfl rfl ⟨aJ,aK,aL,bj,bk,bl,aM,aN,aO,rfl,ei,ee,ej⟩ fun cs337 gr hrow339 hm340 aP=>?_))))
   have el:=getI_set (e:=(GLive.mk (GSeg.mk aI.Seg.Docs bN) aI.Dead)) ap
   obtain⟨gv,em,en⟩:=RowAt.at hrow339 el
   obtain⟨eo,ep,eq,es,et,eu,ev,ew,ex,rfl,gw,gx,gy⟩:=em
   have gz: ∀(j:Nat) (d:Value),[V3 eo ep eq,V3 es et eu,V3 ev ew ex][j]? =some d→cs337[H.1.toNat*tGLive.size+j]? =some d:=en
   refine wl_nil (qh ⟨aP.hasK (G.trans O),aP.hasObj m4⟩ (fun h=>nomatch h) (gd' (qe_block (qr (lv (rv_loadmS (ds:=[V3 c f i,V3 k l m,V3 o x y]) tf36 rfl m4 aP rfl rfl) (lw [V3 c f i,V3 k l m,V3 o x y] tf36 aP.f6 fun gA eA=>(nq (wc_ret ?_))))))))
   obtain⟨eB,bm,eC,bS⟩:=SH.freezeI eA.f1 hrow339 hm340
   cases oi ef
   exact ez results103 tf36 bS m1 ⟨c,f,i,k,l,m,o,x,y,aS,aT,aU,eB,rfl,bS.s,(SliceAt.mono ((((q.le.trans s.le).trans G).trans O).trans bm) S),(SliceAt.mono ((((q.le.trans s.le).trans G).trans O).trans bm) T),eC,(ar.mono ((G.trans O).trans bm)),au⟩
  refine wc_skip (qe_block (qr (lv (rv_loadmS (ds:=[V3 c f i,V3 k l m,V3 o x y]) tf36 rfl m1 U rfl rfl) (lw [V3 c f i,V3 k l m,V3 o x y] tf36 U.f5 fun gB eD=>(nq (wc_ret ?_))))))
  obtain⟨eE,bn,eF,bT⟩:=SH.freezeI eD.f3 (RowAt.mono (q.le.trans s.le) hrow56) hm57
  cases oi bh
  exact ez results103 tf36 bT m1 ⟨c,f,i,k,l,m,o,x,y,aS,aT,aU,eE,rfl,bT.s,(S.mono ((q.le.trans s.le).trans bn)),(T.mono ((q.le.trans s.le).trans bn)),eF,(ar.mono bn),au⟩
 refine wc_skip (qr (lv (rv_loadmS (ds:=[V3 c f i,V3 k l m,V3 o x y]) tf36 rfl m0 R rfl rfl) (lw [V3 c f i,V3 k l m,V3 o x y] tf36 R.f5 fun gC eG=>(nq (wc_ret ?_)))))
 obtain⟨eH,bo,eI,bU⟩:=SH.freezeI eG.f2 hrow56 hm57
 cases oi aR
 exact ez results103 tf36 bU m1 ⟨c,f,i,k,l,m,o,x,y,cc,cd,ce,eH,rfl,bU.s,(S.mono bo),(T.mono bo),eI,(bq.mono (aQ.le.trans bo)),br⟩
end Go.Proofs.YtpjefkdclnmlfaaGreat
