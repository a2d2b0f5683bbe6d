/-
 Walks of the functions. Printed by gen.py.
-/
import Derived.Test.YtpjefkdclnmlfaaGreatWalkA0
import Derived.Test.YtpjefkdclnmlfaaGreatWalkA1
set_option linter.unusedVariables false
set_option linter.unusedSectionVars false
set_option maxRecDepth 100000
namespace Go.Proofs.YtpjefkdclnmlfaaGreat
set_option maxHeartbeats 4000000
open Go Go.Fk Go.RowKit Tryz
variable (F:Nat){w:World}{K:KMap}{Z:List Nat}{g1 g2 g3:Nat}{A B C D G H I J O R S T:Option Addr}{a b c d f i k l m n o p q s v x y aa ab ac ad ae af ag:Nat}
variable [dr:Dr]

theorem ok_spec_l12Doc {q0:GSeg}{q1:Int}{r:GDoc}(hS:SH w K [] w K [])(I:SliceAt tGDoc K A a b q0.Docs)(ba:SliceAt tGEntry K B c d q0.Entries)(bb:rng64 q1)(hm:M.spec_l12Doc F q0 q1=some r):
  Calls prog 120 #[.agg #[V3 A a b,V3 B c d],V6 q1] w fun e w'=>∃a_2 n_3 c_4 a_6 n_7 c_8 K',e= .returned (.agg #[V6 r.Id,V3 a_2 n_3 c_4,V3 a_6 n_7 c_8])∧SH w K [] w' K' []∧rng64 r.Id∧SliceAt tGField K' a_2 n_3 c_4 r.Fields∧SliceAt tGAttr K' a_6 n_7 c_8 r.Nums:=by
 rw [M.spec_l12Doc] at hm
 refine ci func120 u ntmps120 (sr (bx u hS fun J bc ao=>?_))
 have ap:SH _ _ _ _ _ [obj J [V3 A a b,V3 B c d] 46]:=ao
 refine al tf77 ap fun o bd aq=>?_
 have ar:SH _ _ _ _ _ [obj o [V6 0,V3 none 0 0,V3 none 0 0] 77,_]:=aq
 refine nsr (lv (r_0 u) (nq ?_))
 obtain⟨au,aw,H⟩:=ob hm
 refine wc_cutg (fun E' w'=>∃l O R S T U V m,au= .inl l∧E'=[(4,pt o)]∧SH w K [] w' m [obj o [V6 l.Id,V3 O R S,V3 T U V] 77]∧KLe K m∧rng64 l.Id∧SliceAt tGField m O R S l.Fields∧SliceAt tGAttr m T U V l.Nums) ?_ ?_
 ·refine wc_block ?_
  obtain⟨be,ax,af⟩:=ob aw
  refine qw (fun (k:Int×GDoc) E' w'=>∃q s x y C D f,E'=[(1,V6 q1),(2,pt J),(4,pt o),(5,V6 k.1)]∧SH w K [] w' f [obj J [V3 A a b,V3 B c d] 46,obj o [V6 k.2.Id,V3 q s x,V3 y C D] 77]∧KLe K f∧rng64 k.1∧rng64 k.2.Id∧SliceAt tGField f q s x k.2.Fields∧SliceAt tGAttr f y C D k.2.Nums) ax ⟨none,0,0,none,0,0,K,u,ar.f1,kr,d_0,d_0,(SliceAt.nil _ _),(SliceAt.nil _ _)⟩ ?_
  rintro k _ bf bg ay ag ⟨q,s,x,y,C,D,f,rfl,i,G,bh,ah,ai,aj⟩
  refine wc_seq (sr (mv u (fl ff46_0 u tf43 m0 i u (lv (rv_len underlying43 u (I.mono G)) (lv (rv_lss u u) (nq (wcc ay u (fun az W=>?_) (fun az W=>?_))))))))
  ·refine wc_skip (qs (wc_block (sr (fl ff46_0 u tf43 m0 i u (mv u ?_)))))
   obtain⟨aA,aB,aC⟩:=ob W
   refine li underlying43 tf77 (I.mono G) aB fun aD aE bi aF aG=>?_
   obtain⟨aH,aI,aJ,aK,aL,aM,rfl,bj,bk,bl⟩:=aF
   have aN:AtK _ aD aE [V6 aA.Id,V3 aH aI aJ,V3 aK aL aM]:=aG
   refine fa ff77_0 u (lv (rv_load1 tf3 u i (aN 0 _ u)) (mv u (lv (rv_eql u u) (nq (wcc aC u (fun aO X=>?_) (fun aO X=>?_))))))
   ·refine sr (fl ff46_0 u tf43 m0 i u (mv u ?_))
    obtain⟨ak,aP,aQ⟩:=ob X
    refine li underlying43 tf77 (I.mono G) aP fun aR aS bm aT aU=>?_
    obtain⟨Y,aa,ab,ac,ad,ae,rfl,aV,aW,aX⟩:=aT
    have aY:AtK _ aR aS [V6 ak.Id,V3 Y aa ab,V3 ac ad ae]:=aU
    refine lv (rv_loadS tf77 u i aY u) (lw [V6 ak.Id,V3 Y aa ab,V3 ac ad ae] tf77 i.f1 fun bn am=>(nq (wc_ret (qe_block_ret (qe_then_ret (qe_then_ret ?_))))))
    cases oi aQ
    cases ag _ u
    refine qe_block_ret (qe_then_ret ?_)
    cases oi af
    refine qe_then_ret ?_
    cases oi H
    exact ez results120 tf77 am m0 ⟨Y,aa,ab,ac,ad,ae,f,u,am.s,aV,aW,aX⟩
   refine wc_skip (qe_block (qe_seq (wc_region (mv u (lv (rv_add u u) (av u (wl_nil ?_)))))))
   cases oi X
   exact qd ⟨_,u,q,s,x,y,C,D,f,u,i,G,(w64_rng _),ah,ai,aj⟩
  refine wc_exit (qe_then_exit (qe_then_exit ?_))
  cases oi W
  cases ag _ u
  refine qe_block_eq ?_
  cases oi af
  exact qd ⟨_,q,s,x,y,C,D,f,u,u,i.s,G,ah,ai,aj⟩
 rintro _ bo ⟨l,O,R,S,T,U,V,m,rfl,rfl,aZ,bp,bq,br,bs⟩
 have H:=elim_l H
 refine qr (lv (rv_build (cs:=#[V6 0,V3 none 0 0,V3 none 0 0]) sp77 tf77 u (by kernel_rfl)) (lw [V6 0,V3 none 0 0,V3 none 0 0] tf77 aZ fun bu an=>(nq (wc_ret ?_))))
 cases oi H
 exact ez results120 tf77 an m0 ⟨none,0,0,none,0,0,m,u,an.s,d_0,(SliceAt.nil _ _),(SliceAt.nil _ _)⟩

theorem ok_spec_l18Ok {q0:GIndex}{r:Bool}(hS:SH w K [] w K [])(ao:SliceAt tStr K A a b q0.Conf.Stops)(ap:SliceAt tGSyn K B c d q0.Conf.Syns)(ae:SliceAt tGLive K C f i q0.Segs)(hm:M.spec_l18Ok F q0=some r):
  Calls prog 57 #[.agg #[V3 A a b,V3 B c d,V3 C f i]] w (R_b w K r):=by
 rw [M.spec_l18Ok] at hm
 refine ci func57 u ntmps57 (sr (bx u hS fun l cd aS=>?_))
 have aT:SH _ _ _ _ _ [obj l [V3 A a b,V3 B c d,V3 C f i] 36]:=aS
 refine lv (r_f u) (nsr (lv (r_0 u) (nq ?_)))
 obtain⟨aU,aV,Y⟩:=ob hm
 refine wc_cutg (IE aU w K [] K [(1,pt l)] [obj l [V3 A a b,V3 B c d,V3 C f i] 36]) ?_ ?_
 ·refine wc_block ?_
  obtain⟨ce,aW,aq⟩:=ob aV
  refine qw (fun (J:Int)=>IW w K [] K [(1,pt l),(3,V6 J)] [obj l [V3 A a b,V3 B c d,V3 C f i] 36] (rng64 J)) aW ⟨K,u,aT,kr,d_0⟩ ?_
  rintro J _ cf cg aX ar ⟨aI,rfl,aa,O,ch⟩
  refine wc_seq (sr (mv u (fl ff36_1 u tf34 m0 aa u (lv (rv_len underlying34 u (ae.mono O)) (lv (rv_lss u u) (nq (wcc aX u (fun aY au=>?_) (fun aY au=>?_))))))))
  ·refine wc_skip (qs (wc_block (sr (fl ff36_1 u tf34 m0 aa u (mv u ?_)))))
   obtain⟨cj,aZ,ba⟩:=ob au
   refine li underlying34 tf73 (ae.mono O) aZ fun bb bc ck bd be=>?_
   obtain⟨s,x,y,D,G,H,R,S,T,rfl,aw,aJ,af⟩:=bd
   have bf:AtK _ bb bc [V3 s x y,V3 D G H,V3 R S T]:=be
   refine lv (rv_loadS tf73 u aa bf u) (al tf73 aa fun U cl bg=>?_)
   have bh:SH _ _ _ _ _ [obj U [V3 none 0 0,V3 none 0 0,V3 none 0 0] 73,_]:=bg
   refine lw [V3 s x y,V3 D G H,V3 R S T] tf73 bh fun cm ag=>(ns (wc_seq ?_))
   obtain⟨bi,bj,bk⟩:=ob ba
   refine wc_cutg (IV w K [] aI [(1,pt l),(3,V6 J),(4,pt U),(39,.bool bi)] [obj l [V3 A a b,V3 B c d,V3 C f i] 36,obj U [V3 s x y,V3 D G H,V3 R S T] 73]) ?_ ?_
   ·refine wc_region (fa ff36_0 u (lv (rv_loadmS (ds:=[V3 A a b,V3 B c d]) tf33 u m1 ag u u) (fa ff73_0 u (lv (rv_loadmS (ds:=[V3 s x y,V3 D G H]) tf46 u m0 ag u u) ?_))))
    obtain⟨cn,bl,bm⟩:=ob bj
    refine lk co90 (ok_spec_l7Ok F ag.enter0 (ao.mono O) (ap.mono O) aw aJ bl) ?_
    rintro cp cq ⟨bn,rfl,I⟩
    have ah:=(ag.c0 I).t2
    refine lv (rv_not u) (mv u (bt bm (fun m ax=>?_) (fun m ax=>?_)))
    ·refine lu m (lu m (lu m (lu m (lv (p_t u m u) (mv u ?_)))))
     iterate 8 refine lu u ?_
     refine lv (p_t u u u) (wl_nil ?_)
     cases oi ax
     exact qd ⟨bn,u,ah.f1,I.le⟩
    refine lg m (rv_fieldAddr ff73_1 u) (lg m (rv_loadm1 tf71 u m0 ah u) ?_)
    obtain⟨cr,bo,bp⟩:=ob ax
    refine wl_call (wg u u m) u (rt_call (vs:=[V3 R S T]) co119 u) (ok_spec_l3Up F ah.enter0 (af.mono I.le) bo) ?_
    rintro cs ct ⟨aK,rfl,ab⟩
    refine⟨_,u,?_⟩
    have ai:=(ah.c0 ab).t2
    refine lg m (rv_not u) (lv (rv_pick_f u m u) (mv u (bt bp (fun k ay=>?_) (fun k ay=>?_))))
    ·iterate 8 refine lu k ?_
     refine lv (p_t u k u) (wl_nil ?_)
     cases oi ay
     exact qd ⟨aK,u,ai.f1,(I.le.trans ab.le)⟩
    refine lg k (rv_fieldAddr ff73_1 u) (lg k (rv_loadm1 tf71 u m0 ai u) (lg k (rv_len underlying71 u (af.mono (I.le.trans ab.le))) (lg k (rv_fieldAddr ff73_0 u) (lg k (rv_fieldAddr ff46_0 u) (lg k (rv_loadm1 tf43 u m0 ai u) (lg k (rv_len underlying43 u (aw.mono (I.le.trans ab.le))) (lg k (rv_geq u u) (lv (rv_pick_f u k u) (wl_nil ?_)))))))))
    cases oi ay
    exact qd ⟨aK,u,ai.f1,(I.le.trans ab.le)⟩
   rintro _ cu ⟨aj,rfl,aL,ac⟩
   refine qe_seq (wcc bk u (fun bq az=>?_) (fun bq az=>?_))
   ·refine sr (lv (r_f u) (nq (rr (qe_block_ret (qe_then_ret (qe_then_ret ?_))))))
    cases oi az
    cases ar _ u
    refine qe_block_ret (qe_then_ret ?_)
    cases oi aq
    refine qe_then_ret ?_
    cases oi Y
    exact ey results57 ⟨aj,u,aL.s⟩
   refine wc_skip (qr (lv (r_0 u) (nq ?_)))
   obtain⟨br,bs,ak⟩:=ob az
   refine wc_cutg (IE br w K [] aj [(1,pt l),(3,V6 J)] [obj l [V3 A a b,V3 B c d,V3 C f i] 36]) ?_ ?_
   ·refine wc_block ?_
    obtain⟨cv,bu,aM⟩:=ob bs
    refine qw (fun (aA:Int)=>IW w K [] aj [(1,pt l),(3,V6 J),(4,pt U),(5,V6 aA)] [obj l [V3 A a b,V3 B c d,V3 C f i] 36,obj U [V3 s x y,V3 D G H,V3 R S T] 73] (rng64 aA)) bu ⟨aj,u,aL,kr,d_0⟩ ?_
    rintro aA _ cw cx bv aN ⟨aO,rfl,aB,V,cy⟩
    refine wc_seq (sr (mv u (fl ff73_1 u tf71 m1 aB u (lv (rv_len underlying71 u (af.mono (ac.trans V))) (lv (rv_lss u u) (nq (wcc bv u (fun bz aC=>?_) (fun bz aC=>?_))))))))
    ·refine wc_skip (qs (wc_block (wc_seq ?_)))
     have am:=aB.drew
     refine wh1 (fun w'=>Holds aO w'∧HasObj U [V3 s x y,V3 D G H,V3 R S T] w') (fun w'=>True) 10 [] mixed ⟨am.hasK kr,am.hasObj m1⟩ (fun _=>trivial) (gt (rv_fieldAddr ff73_0 u) (gh (fun _ h=>rh_loadmS (ds:=[V3 s x y,V3 D G H]) tf46 u u u h.2) (gt (rv_fieldAddr ff73_1 u) (gh (fun _ h=>rh_loadm1 tf71 u u h.2) (gt (rv_move u) ?_)))))
     obtain⟨bA,bB,bC⟩:=ob aC
     refine gi underlying71 tf3 (af.mono (ac.trans V)) bB fun bD bE cz bF bG=>?_
     obtain⟨rfl,bH⟩:=bF
     have bI:AtK _ bD bE [V6 bA]:=bG
     refine gh (fun _ h=>rh_load1 tf3 u (bI 0 _ u) h.1) (gn ?_)
     obtain⟨cA,bJ,bK⟩:=ob bC
     refine lk co120 (ok_spec_l12Doc F am.enter0 (aw.mono (ac.trans V)) (aJ.mono (ac.trans V)) bH bJ) ?_
     rintro cB cC ⟨cD,cE,cF,cG,cH,cI,aP,rfl,aD,cJ,cK,cL⟩
     have an:=(am.c0 aD).t2
     refine wl_nil (qh ⟨an.hasK aD.le,an.hasObj m1⟩ (fun _=>trivial) (gt (rv_field fg77_0 tf3 u (.inl ⟨u,u⟩)) (gt (rv_eql u u) (gd' (qe_seq (wcc bK u (fun bL aE=>?_) (fun bL aE=>?_)))))))
     ·refine sr (lv (r_f u) (nq (wc_ret (qe_block_ret (qe_then_ret (qe_then_ret ?_))))))
      cases oi aE
      cases aN _ u
      refine qe_block_ret (qe_then_ret ?_)
      cases oi aM
      refine qe_block_ret (qe_then_ret (qe_then_ret ?_))
      cases oi ak
      cases ar _ u
      refine qe_block_ret (qe_then_ret ?_)
      cases oi aq
      refine qe_then_ret ?_
      cases oi Y
      exact ey results57 ⟨aP,u,an.s⟩
     refine wc_skip (qe_block (qe_seq (wc_region (mv u (lv (rv_add u u) (av u (wl_nil ?_)))))))
     cases oi aE
     exact qd ⟨_,u,aP,u,an,(V.trans aD.le),(w64_rng _)⟩
    refine wc_exit (qe_then_exit (qe_then_exit ?_))
    cases oi aC
    cases aN _ u
    refine qe_block_eq ?_
    cases oi aM
    exact qd ⟨_,aO,u,u,aB.s,V⟩
   rintro _ cM ⟨cN,bM,rfl,rfl,bN,bO⟩
   have ak:=elim_l ak
   refine qe_block (qe_seq (wc_region (mv u (lv (rv_add u u) (av u (wl_nil ?_))))))
   cases oi ak
   exact qd ⟨_,u,bM,u,bN,((O.trans ac).trans bO),(w64_rng _)⟩
  refine wc_exit (qe_then_exit (qe_then_exit ?_))
  cases oi au
  cases ar _ u
  refine qe_block_eq ?_
  cases oi aq
  exact qd ⟨_,aI,u,u,aa,O⟩
 rintro _ cO ⟨cP,cQ,rfl,rfl,aF,W⟩
 have Y:=elim_l Y
 refine qr (fa ff36_0 u (lv (rv_loadmS (ds:=[V3 A a b,V3 B c d]) tf33 u m0 aF u u) ?_))
 obtain⟨cR,bP,bQ⟩:=ob Y
 refine lk co66 (ok_spec_l2Ok F aF.enter0 (ao.mono W) (ap.mono W) bP) ?_
 rintro cS cT ⟨aQ,rfl,ad⟩
 have X:=(aF.c0 ad).t1
 refine mv u (bt bQ (fun o aG=>?_) (fun o aG=>?_))
 ·refine lg o (rv_fieldAddr ff36_1 u) (lg o (rv_loadm1 tf34 u m0 X u) (lg o (rv_len underlying34 u (ae.mono (W.trans ad.le))) (lg o (rv_leq u u) (lv (rv_pick_t u o u) (mv u (bt aG (fun q aH=>?_) (fun q aH=>?_)))))))
  ·refine lg q (rv_loadmS (ds:=[V3 A a b,V3 B c d,V3 C f i]) tf36 u m0 X u u) ?_
   obtain⟨cU,bR,bS⟩:=ob aH
   refine wl_call (wg u u q) u (rt_call (vs:=[.agg #[V3 A a b,V3 B c d,V3 C f i]]) co99 u) (ok_spec_l18Docs F X.enter0 (ao.mono (W.trans ad.le)) (ap.mono (W.trans ad.le)) (ae.mono (W.trans ad.le)) bR) ?_
   rintro cV cW ⟨bT,bU,bV,cX,rfl,bW,bX⟩
   refine⟨_,u,?_⟩
   have aR:=(X.c0 bW).t2
   obtain⟨cY,bY,bZ⟩:=ob bS
   refine wl_call (wg u u q) u (rt_call (vs:=[V3 bT bU bV]) co67 u) (ok_spec_l6Docs F aR.enter0 bX bY) ?_
   rintro cZ da ⟨ca,rfl,cb⟩
   refine⟨_,u,?_⟩
   have cc:=(aR.c0 cb).t2
   refine lv (rv_pick_t u q u) (av u (nq (wc_ret ?_)))
   cases oi bZ
   exact ey results57 ⟨ca,u,cc.s⟩
  refine lu q (lu q (lu q (lv (p_f u q u) (av u (nq (wc_ret ?_))))))
  cases oi aH
  exact ey results57 ⟨aQ,u,X.s⟩
 refine lu o (lu o (lu o (lu o (lv (p_f u o u) (mv u (lu u (lu u (lu u (lv (p_f u u u) ?_)))))))))
 refine av u (nq (wc_ret ?_))
 cases oi aG
 exact ey results57 ⟨aQ,u,X.s⟩

theorem ok_spec_IndexOk {q0:GIndex}{r:Bool}(hS:SH w K [] w K [])(l:SliceAt tStr K A a b q0.Conf.Stops)(m:SliceAt tGSyn K B c d q0.Conf.Syns)(o:SliceAt tGLive K C f i q0.Segs)(hm:M.spec_IndexOk F q0=some r):
  Calls prog 12 #[.agg #[V3 A a b,V3 B c d,V3 C f i]] w (R_b w K r):=by
 rw [M.spec_IndexOk] at hm
 refine ci func12 u ntmps12 (sr (bx u hS fun q I s=>?_))
 have k:SH _ _ _ _ _ [obj q [V3 A a b,V3 B c d,V3 C f i] 36]:=s
 refine lv (r_f u) (nr (lv (rv_loadmS (ds:=[V3 A a b,V3 B c d,V3 C f i]) tf36 u m0 k u u) ?_))
 obtain⟨J,x,y⟩:=ob hm
 refine lk co57 (ok_spec_l18Ok F k.enter0 l m o x) ?_
 rintro O R ⟨D,rfl,G⟩
 have H:=(k.c0 G).t1
 refine av u (nq (wc_ret ?_))
 cases oi y
 exact ey results12 ⟨D,u,H.s⟩

theorem ok_impl_within {q0:Int}{q1:Int}{q2:Int}{r:Bool}(hS:SH w K [] w K [])(c:rng64 q0)(d:rng64 q1)(f:rng64 q2)(hm:M.impl_within F q0 q1 q2=some r):
  Calls prog 108 #[V6 q0,V6 q1,V6 q2] w (R_b w K r):=by
 rw [M.impl_within] at hm
 refine ci func108 u ntmps108 (sr (lv (r_f u) (nr (mv u (mv u (lv (rv_geq u u) (mv u (bt hm (fun a b=>?_) (fun a b=>?_)))))))))
 ·refine lg a (rv_move u) (lg a (rv_move u) (lg a (rv_leq u u) (lv (rv_pick_t u a u) (av u (nq (wc_ret ?_))))))
  cases oi b
  exact ey results108 ⟨K,u,hS⟩
 refine lu a (lu a (lu a (lv (p_f u a u) (av u (nq (wc_ret ?_))))))
 cases oi b
 exact ey results108 ⟨K,u,hS⟩

theorem ok_impl_wordByte {q0:UInt8}{r:Bool}(hS:SH w K [] w K [])(hm:M.impl_wordByte F q0=some r):
  Calls prog 185 #[iv8 q0] w (R_b w K r):=by
 rw [M.impl_wordByte] at hm
 refine ci func185 u ntmps185 (sr (lv (r_f u) (nr (mv u (lv (rv_bge (b:=(97:UInt8)) u u) (mv u (bt hm (fun c i=>?_) (fun c i=>?_))))))))
 ·refine lg c (rv_move u) (lg c (rv_ble (b:=(122:UInt8)) u u) (lv (rv_pick_t u c u) (mv u (bt i (fun a k=>?_) (fun a k=>?_)))))
  ·refine lu a (lu a (lu a (wl_un (uu u u) u (wl_un (uu u u) u (lu a (lv (p_t u a u) (av u (nq (wc_ret ?_)))))))))
   cases oi k
   exact ey results185 ⟨K,u,hS⟩
  refine lg a (rv_move u) (lg a (rv_bge (b:=(48:UInt8)) u u) (lg a (rv_move u) (bt k (fun d l=>?_) (fun d l=>?_))))
  ·refine lg d (rv_move u) (lg d (rv_ble (b:=(57:UInt8)) u u) (lg a (rv_pick_t u d u) (lv (rv_pick_f u a u) (av u (nq (wc_ret ?_))))))
   cases oi l
   exact ey results185 ⟨K,u,hS⟩
  refine lu d (lu d (lg a (p_f u d u) (lv (rv_pick_f u a u) (av u (nq (wc_ret ?_))))))
  cases oi l
  exact ey results185 ⟨K,u,hS⟩
 refine lu c (lu c (lv (p_f u c u) (mv u (lg u (rv_move u) (lg u (rv_bge (b:=(48:UInt8)) u u) (lg u (rv_move u) (bt i (fun f m=>?_) (fun f m=>?_))))))))
 ·refine lg f (rv_move u) (lg f (rv_ble (b:=(57:UInt8)) u u) (lg u (rv_pick_t u f u) (lv (rv_pick_f u u u) (av u (nq (wc_ret ?_))))))
  cases oi m
  exact ey results185 ⟨K,u,hS⟩
 refine lu f (lu f (lg u (p_f u f u) (lv (rv_pick_f u u u) (av u (nq (wc_ret ?_))))))
 cases oi m
 exact ey results185 ⟨K,u,hS⟩

theorem ok_impl_WordOk {q0:Str}{r:Bool}(hS:SH w K [] w K [])(f:q0.length≤maxLen)(hm:M.impl_WordOk F q0=some r):
  Calls prog 123 #[sv q0] w (R_b w K r):=by
 rw [M.impl_WordOk] at hm
 refine ci func123 u ntmps123 (sr (lv (r_f u) (nsr (mv u (lv (rv_slen underlying9 u) (lv (r_m u) (nq ?_)))))))
 obtain⟨y,A,a⟩:=ob hm
 refine wc_cutg (IE y w K [] K [(0,sv q0)] []) ?_ ?_
 ·refine wc_block ?_
  obtain⟨Y,B,i⟩:=ob A
  refine qf (fun (k:Nat) (l:Unit)=>IV w K [] K [(0,sv q0),(5,V6 (q0.length:Int)),(6,V6 ((k:Nat):Int))] []) B ⟨K,u,hS,kr⟩ ?_ ?_
  ·rintro k l _ C aa hi21 D G ⟨m,rfl,b,c⟩
   refine sr (lv (rv_lss u u) (ns (wc_cond_t u (decide_eq_true (by omega)) (wc_skip (qe_seq (wc_seq (wc_block (sr (mv u (av u (nr (mv u ?_))))))))))))
   refine mv u ?_
   obtain⟨ab,H,I⟩:=ob D
   refine lv (rv_sidx underlying9 u u H) ?_
   obtain⟨ac,J,O⟩:=ob I
   refine lk co185 (ok_impl_wordByte F b.enter0 J) ?_
   rintro ad ae ⟨o,rfl,q⟩
   have s:=(b.c0 q).t0
   refine lv (rv_not u) (nq (wcc O u (fun R d=>?_) (fun R d=>?_)))
   ·refine sr (lv (r_f u) (nq (wc_ret (qe_block_ret (qe_then_ret (qe_then_ret ?_))))))
    cases oi d
    cases G _ u
    refine qe_block_ret (qe_then_ret ?_)
    cases oi i
    refine qe_then_ret ?_
    cases oi a
    exact ey results123 ⟨o,u,s⟩
   refine wc_skip (qe_block (qg (lv (rv_add_to u u (w64_succ hi21 f)) (mv u (wl_nil ?_)))))
   cases oi d
   exact qd ⟨_,u,o,u,s,(c.trans q.le)⟩
  rintro l _ C S ⟨m,rfl,b,c⟩
  subst S
  refine sr (lv (rv_lss u u) (ns (wc_cond_f u (decide_eq_false (by omega)) (wc_exit (qe_then_exit (qe_then_exit (qe_block_eq ?_)))))))
  cases oi i
  exact qd ⟨_,m,u,u,b,c⟩
 rintro _ w9 ⟨s5,K6,rfl,rfl,x,ai⟩
 have a:=elim_l a
 refine qr (mv u (lv (rv_slen underlying9 u) ?_))
 obtain⟨aj,T,U⟩:=ob a
 refine lk co108 (ok_impl_within F x.enter0 (rng_nat f) (by decide :rng64 1) (by decide :rng64 12) T) ?_
 rintro ak al ⟨V,rfl,W⟩
 have X:=(x.c0 W).t0
 refine av u (nq (wc_ret ?_))
 cases oi U
 exact ey results123 ⟨V,u,X⟩

theorem ok_impl_TextOk {q0:Str}{r:Bool}(hS:SH w K [] w K [])(y:q0.length≤maxLen)(hm:M.impl_TextOk F q0=some r):
  Calls prog 148 #[sv q0] w (R_b w K r):=by
 rw [M.impl_TextOk] at hm
 refine ci func148 u ntmps148 (sr (lv (r_f u) (nsr (mv u (lv (rv_slen underlying9 u) (lv (r_m u) (nq ?_)))))))
 obtain⟨A,B,d⟩:=ob hm
 refine wc_cutg (IE A w K [] K [(0,sv q0)] []) ?_ ?_
 ·refine wc_block ?_
  obtain⟨ab,C,o⟩:=ob B
  refine qf (fun (i:Nat) (q:Unit)=>IV w K [] K [(0,sv q0),(5,V6 (q0.length:Int)),(6,V6 ((i:Nat):Int))] []) C ⟨K,u,hS,kr⟩ ?_ ?_
  ·rintro i q _ D ac hi21 G H ⟨c,rfl,f,k⟩
   refine sr (lv (rv_lss u u) (ns (wc_cond_t u (decide_eq_true (by omega)) (wc_skip (qe_seq (wc_seq (wc_block (sr (mv u (av u (ns ?_)))))))))))
   obtain⟨I,J,O⟩:=ob G
   refine wc_cutg (IV w K [] c [(0,sv q0),(5,V6 (q0.length:Int)),(6,V6 ((i:Nat):Int)),(18,.bool I)] []) ?_ ?_
   ·refine wc_region (mv u (mv u ?_))
    obtain⟨ad,R,S⟩:=ob J
    refine lv (rv_sidx underlying9 u u R) (lv (rv_bl (b:=(32:UInt8)) u u) (mv u (bt S (fun a l=>?_) (fun a l=>?_))))
    ·refine lu a (lu a (lu a (lu a (lv (p_t u a u) (wl_nil ?_)))))
     cases oi l
     exact qd ⟨c,u,f,kr⟩
    refine lg a (rv_move u) (lg a (rv_move u) ?_)
    obtain⟨ae,T,U⟩:=ob l
    refine lg a (rv_sidx underlying9 u u T) (lg a (rv_bg (b:=(126:UInt8)) u u) (lv (rv_pick_f u a u) (wl_nil ?_)))
    cases oi U
    exact qd ⟨c,u,f,kr⟩
   rintro _ af ⟨s,rfl,x,V⟩
   refine qe_seq (wcc O u (fun W m=>?_) (fun W m=>?_))
   ·refine sr (lv (r_f u) (nq (wc_ret (qe_block_ret (qe_then_ret (qe_then_ret ?_))))))
    cases oi m
    cases H _ u
    refine qe_block_ret (qe_then_ret ?_)
    cases oi o
    refine qe_then_ret ?_
    cases oi d
    exact ey results148 ⟨s,u,x⟩
   refine wc_skip (qe_block (qg (lv (rv_add_to u u (w64_succ hi21 y)) (mv u (wl_nil ?_)))))
   cases oi m
   exact qd ⟨_,u,s,u,x,(k.trans V)⟩
  rintro q _ D X ⟨c,rfl,f,k⟩
  subst X
  refine sr (lv (rv_lss u u) (ns (wc_cond_f u (decide_eq_false (by omega)) (wc_exit (qe_then_exit (qe_then_exit (qe_block_eq ?_)))))))
  cases oi o
  exact qd ⟨_,c,u,u,f,k⟩
 rintro _ w9 ⟨s5,Y,rfl,rfl,aa,ai⟩
 have d:=elim_l d
 refine qr (mv u (lv (rv_slen underlying9 u) (lv (rv_leq u u) (av u (nq (wc_ret ?_))))))
 cases oi d
 exact ey results148 ⟨Y,u,aa⟩

theorem ok_impl_DocOk {q0:GDoc}{r:Bool}(hS:SH w K [] w K [])(aH:rng64 q0.Id)(D:SliceAt tGField K A a b q0.Fields)(G:SliceAt tGAttr K B c d q0.Nums)(hm:M.impl_DocOk F q0=some r):
  Calls prog 105 #[.agg #[V6 q0.Id,V3 A a b,V3 B c d]] w (R_b w K r):=by
 rw [M.impl_DocOk] at hm
 refine ci func105 u ntmps105 (sr (bx u hS fun k cT aI=>?_))
 have Y:SH _ _ _ _ _ [obj k [V6 q0.Id,V3 A a b,V3 B c d] 77]:=aI
 refine lv (r_f u) (ns (wc_seq ?_))
 obtain⟨aJ,aK,aL⟩:=ob hm
 refine wc_cutg (IV w K [] K [(1,pt k),(22,.bool aJ)] [obj k [V6 q0.Id,V3 A a b,V3 B c d] 77]) ?_ ?_
 ·refine wc_region (fl ff77_0 u tf3 m0 Y u ?_)
  obtain⟨cU,aM,aN⟩:=ob aK
  refine lk co108 (ok_impl_within F Y.enter0 aH (by decide :rng64 1) (by decide :rng64 9999) aM) ?_
  rintro cV cW ⟨aa,rfl,C⟩
  have H:=(Y.c0 C).t1
  refine lv (rv_not u) (mv u (bt aN (fun o ab=>?_) (fun o ab=>?_)))
  ·refine lu o (lu o (lu o (lu o (lv (p_t u o u) (mv u (lu u (lu u (lu u (lu u ?_)))))))))
   refine lv (p_t u u u) (wl_nil ?_)
   cases oi ab
   exact qd ⟨aa,u,H,C.le⟩
  refine lg o (rv_fieldAddr ff77_1 u) (lg o (rv_loadm1 tf74 u m0 H u) (lg o (rv_len underlying74 u (D.mono C.le)) (lg o (rv_gtr u u) (lv (rv_pick_f u o u) (mv u (bt ab (fun q ac=>?_) (fun q ac=>?_)))))))
  ·refine lu q (lu q (lu q (lu q (lv (p_t u q u) (wl_nil ?_)))))
   cases oi ac
   exact qd ⟨aa,u,H,C.le⟩
  refine lg q (rv_fieldAddr ff77_2 u) (lg q (rv_loadm1 tf75 u m0 H u) (lg q (rv_len underlying75 u (G.mono C.le)) (lg q (rv_gtr u u) (lv (rv_pick_f u q u) (wl_nil ?_)))))
  cases oi ac
  exact qd ⟨aa,u,H,C.le⟩
 rintro _ cX ⟨O,rfl,ad,y⟩
 refine qe_seq (wcc aL u (fun aO ae=>?_) (fun aO ae=>?_))
 ·refine sr (lv (r_f u) (nq (rr ?_)))
  cases oi ae
  exact ey results105 ⟨O,u,ad.s⟩
 refine wc_skip (qs (sr (fl ff77_1 u tf74 m0 ad u (lv (rv_len underlying74 u (D.mono y)) (lv (r_m u) (nq ?_))))))
 obtain⟨aP,aQ,R⟩:=ob ae
 refine wc_cutg (IE aP w K [] O [(1,pt k)] [obj k [V6 q0.Id,V3 A a b,V3 B c d] 77]) ?_ ?_
 ·refine wc_block ?_
  obtain⟨cY,aR,aw⟩:=ob aQ
  refine qf (fun (af:Nat) (ax:Unit)=>IV w K [] O [(1,pt k),(24,V3 A a b),(25,V6 (q0.Fields.length:Int)),(26,V6 ((af:Nat):Int))] [obj k [V6 q0.Id,V3 A a b,V3 B c d] 77]) aR ⟨O,u,ad,kr⟩ ?_ ?_
  ·rintro af ax _ aS cZ hi54 aT aU ⟨ag,rfl,S,I⟩
   refine sr (lv (rv_lss u u) (ns (wc_cond_t u (decide_eq_true (by omega)) (wc_skip (qe_seq (wc_seq (wc_block (sr (mv u ?_)))))))))
   obtain⟨T,aV,aW⟩:=ob aT
   refine li underlying74 tf108 (D.mono (y.trans I)) aV fun aX aY da aZ ba=>?_
   obtain⟨rfl,bb,bc⟩:=aZ
   have bd:AtK _ aX aY [sv T.Name,sv T.Text]:=ba
   refine lv (rv_loadS tf108 u S bd u) (al tf108 S fun be db bf=>?_)
   have bg:SH _ _ _ _ _ [obj be [sv [],sv []] 108,_]:=bf
   refine av u (lw [sv T.Name,sv T.Text] tf108 bg fun dc bh=>(ns ?_))
   obtain⟨bi,bj,bk⟩:=ob aW
   refine wc_cutg (IV w K [] ag [(1,pt k),(24,V3 A a b),(25,V6 (q0.Fields.length:Int)),(26,V6 ((af:Nat):Int)),(56,.bool bi)] [obj k [V6 q0.Id,V3 A a b,V3 B c d] 77]) ?_ ?_
   ·refine wc_quiet mixed (by kernel_rfl) bh (kv (rv_fieldAddr ff108_0 u) (kh (rq_loadm1 tf9 u m0 u) ?_))
    obtain⟨dd,bl,bm⟩:=ob bj
    refine kc co123 (fun _ _ bn de=>(ok_impl_WordOk F) bn.enter0 bb bl) (kv (rv_not u) (km u (bt bm (fun s ah=>?_) (fun s ah=>?_))))
    ·refine kn s (kn s (kn s (kn s (kv (p_t u s u) (km u (qv u u u u (qv u u u u (qv u u u u ?_))))))))
     iterate 10 refine ku ?_
     refine qv u u u u (kv (p_t u u u) (wq_nil ?_))
     rintro df ⟨bo,bp,bq⟩
     cases oi ah
     exact qd ⟨bo,u,bp.s,bq⟩
    refine kg s (rv_fieldAddr ff108_1 u) (kgh s (rq_loadm1 tf9 u m0 u) ?_)
    obtain⟨dg,br,bs⟩:=ob ah
    refine kcg s co148 (fun _ _ bu dh=>(ok_impl_TextOk F) bu.enter0 bc br) (kg s (rv_not u) (kv (rv_pick_f u s u) (km u (bt bs (fun l ai=>?_) (fun l ai=>?_)))))
    ·refine kn l (kn l (kn l ?_))
     iterate 10 refine ku ?_
     refine kn l (kv (p_t u l u) (wq_nil ?_))
     rintro di ⟨bv,bz,bA⟩
     cases oi ai
     exact qd ⟨bv,u,bz.s,bA⟩
    refine kg l (rv_move u) (kg l (rv_gtr u u) (kg l (rv_move u) (bt ai (fun f aj=>?_) (fun f aj=>?_))))
    ·refine kg f (rv_fieldAddr ff77_1 u) (kgh f (rq_loadm1 tf74 u m1 u) (kg f (rv_move u) (kg f (rv_sub u u) ?_)))
     obtain⟨ay,bB,bC⟩:=ob aj
     refine wq_indexAddr (t:=tGField) (wg u u f) u underlying74 tf108 u u (D.mono (y.trans I)) bB fun bD bE dj bF bG=>?_
     obtain⟨rfl,dk,dl⟩:=bF
     have bH:AtK _ bD bE [sv ay.Name,sv ay.Text]:=bG
     refine kg f (rv_fieldAddr ff108_0 u) (kgh f (rq_load1 tf9 u (bH 0 _ u)) (kg f (rv_fieldAddr ff108_0 u) (kgh f (rq_loadm1 tf9 u m0 u) (kg f (rv_sgeq u u) (kg l (rv_pick_t u f u) (kv (rv_pick_f u l u) (wq_nil ?_)))))))
     rintro dm ⟨bI,bJ,bK⟩
     cases oi bC
     exact qd ⟨bI,u,bJ.s,bK⟩
    iterate 10 refine kn f ?_
    refine kg l (p_f u f u) (kv (rv_pick_f u l u) (wq_nil ?_))
    rintro dn ⟨bL,bM,bN⟩
    cases oi aj
    exact qd ⟨bL,u,bM.s,bN⟩
   rintro _ dp ⟨az,rfl,aA,bO⟩
   refine qe_seq (wcc bk u (fun bP ak=>?_) (fun bP ak=>?_))
   ·refine sr (lv (r_f u) (nq (wc_ret (qe_block_ret (qe_then_ret (qe_then_ret ?_))))))
    cases oi ak
    cases aU _ u
    refine qe_block_ret (qe_then_ret ?_)
    cases oi aw
    refine qe_then_ret ?_
    cases oi R
    exact ey results105 ⟨az,u,aA.s⟩
   refine wc_skip (qe_block (qg (lv (rv_add_to u u (w64_succ hi54 (SliceAt.max (D.mono y)))) (mv u (wl_nil ?_)))))
   cases oi ak
   exact qd ⟨_,u,az,u,aA,(I.trans bO)⟩
  rintro ax _ aS bQ ⟨ag,rfl,S,I⟩
  subst bQ
  refine sr (lv (rv_lss u u) (ns (wc_cond_f u (decide_eq_false (by omega)) (wc_exit (qe_then_exit (qe_then_exit (qe_block_eq ?_)))))))
  cases oi aw
  exact qd ⟨_,ag,u,u,S,I⟩
 rintro _ dq ⟨dr,am,rfl,rfl,aB,U⟩
 have R:=elim_l R
 refine qs (sr (fl ff77_2 u tf75 m0 aB u (lv (rv_len underlying75 u (G.mono (y.trans U))) (lv (r_m u) (nq ?_)))))
 obtain⟨bR,bS,V⟩:=ob R
 refine wc_cutg (IE bR w K [] am [] []) ?_ ?_
 ·refine wc_block ?_
  obtain⟨ds,bT,aC⟩:=ob bS
  refine qf (fun (an:Nat) (aD:Unit)=>IV w K [] am [(1,pt k),(59,V3 B c d),(60,V6 (q0.Nums.length:Int)),(61,V6 ((an:Nat):Int))] [obj k [V6 q0.Id,V3 A a b,V3 B c d] 77]) bT ⟨am,u,aB,kr⟩ ?_ ?_
  ·rintro an aD _ bU dt hi156 bV bW ⟨ao,rfl,W,J⟩
   refine sr (lv (rv_lss u u) (ns (wc_cond_t u (decide_eq_true (by omega)) (wc_skip (qe_seq (wc_seq (wc_block (sr (mv u ?_)))))))))
   obtain⟨X,bX,bY⟩:=ob bV
   refine li underlying75 tf142 (G.mono ((y.trans U).trans J)) bX fun bZ ca du cb cc=>?_
   obtain⟨rfl,cd,ce⟩:=cb
   have cf:AtK _ bZ ca [sv X.Name,V6 X.Num]:=cc
   refine lv (rv_loadS tf142 u W cf u) (al tf142 W fun cg dv ch=>?_)
   have cj:SH _ _ _ _ _ [obj cg [sv [],V6 0] 142,_]:=ch
   refine av u (lw [sv X.Name,V6 X.Num] tf142 cj fun dw ck=>(ns ?_))
   obtain⟨cl,cm,cn⟩:=ob bY
   refine wc_cutg (IV w K [] ao [(1,pt k),(59,V3 B c d),(60,V6 (q0.Nums.length:Int)),(61,V6 ((an:Nat):Int)),(91,.bool cl)] [obj k [V6 q0.Id,V3 A a b,V3 B c d] 77]) ?_ ?_
   ·refine wc_quiet mixed (by kernel_rfl) ck (kv (rv_fieldAddr ff142_0 u) (kh (rq_loadm1 tf9 u m0 u) ?_))
    obtain⟨dx,cp,cq⟩:=ob cm
    refine kc co123 (fun _ _ cr dy=>(ok_impl_WordOk F) cr.enter0 cd cp) (kv (rv_not u) (km u (bt cq (fun x ap=>?_) (fun x ap=>?_))))
    ·refine kn x (kn x (kn x (kn x (kv (p_t u x u) (km u (qv u u u u (qv u u u u (qv u u u u ?_))))))))
     iterate 10 refine ku ?_
     refine qv u u u u (kv (p_t u u u) (wq_nil ?_))
     rintro dz ⟨cs,ct,cu⟩
     cases oi ap
     exact qd ⟨cs,u,ct.s,cu⟩
    refine kg x (rv_fieldAddr ff142_1 u) (kgh x (rq_loadm1 tf3 u m0 u) ?_)
    obtain⟨dA,cv,cw⟩:=ob ap
    refine kcg x co108 (fun _ _ cx dB=>(ok_impl_within F) cx.enter0 ce d_0 (by decide :rng64 999999999) cv) (kg x (rv_not u) (kv (rv_pick_f u x u) (km u (bt cw (fun m aq=>?_) (fun m aq=>?_)))))
    ·refine kn m (kn m (kn m ?_))
     iterate 10 refine ku ?_
     refine kn m (kv (p_t u m u) (wq_nil ?_))
     rintro dC ⟨cy,cz,cA⟩
     cases oi aq
     exact qd ⟨cy,u,cz.s,cA⟩
    refine kg m (rv_move u) (kg m (rv_gtr u u) (kg m (rv_move u) (bt aq (fun i ar=>?_) (fun i ar=>?_))))
    ·refine kg i (rv_fieldAddr ff77_2 u) (kgh i (rq_loadm1 tf75 u m1 u) (kg i (rv_move u) (kg i (rv_sub u u) ?_)))
     obtain⟨aE,cB,cC⟩:=ob ar
     refine wq_indexAddr (t:=tGAttr) (wg u u i) u underlying75 tf142 u u (G.mono ((y.trans U).trans J)) cB fun cD cE dD cF cG=>?_
     obtain⟨rfl,dE,dF⟩:=cF
     have cH:AtK _ cD cE [sv aE.Name,V6 aE.Num]:=cG
     refine kg i (rv_fieldAddr ff142_0 u) (kgh i (rq_load1 tf9 u (cH 0 _ u)) (kg i (rv_fieldAddr ff142_0 u) (kgh i (rq_loadm1 tf9 u m0 u) (kg i (rv_sgeq u u) (kg m (rv_pick_t u i u) (kv (rv_pick_f u m u) (wq_nil ?_)))))))
     rintro dG ⟨cI,cJ,cK⟩
     cases oi cC
     exact qd ⟨cI,u,cJ.s,cK⟩
    iterate 10 refine kn i ?_
    refine kg m (p_f u i u) (kv (rv_pick_f u m u) (wq_nil ?_))
    rintro dH ⟨cL,cM,cN⟩
    cases oi ar
    exact qd ⟨cL,u,cM.s,cN⟩
   rintro _ dI ⟨aF,rfl,aG,cO⟩
   refine qe_seq (wcc cn u (fun cP au=>?_) (fun cP au=>?_))
   ·refine sr (lv (r_f u) (nq (wc_ret (qe_block_ret (qe_then_ret (qe_then_ret ?_))))))
    cases oi au
    cases bW _ u
    refine qe_block_ret (qe_then_ret ?_)
    cases oi aC
    refine qe_then_ret ?_
    cases oi V
    exact ey results105 ⟨aF,u,aG.s⟩
   refine wc_skip (qe_block (qg (lv (rv_add_to u u (w64_succ hi156 (SliceAt.max (G.mono (y.trans U))))) (mv u (wl_nil ?_)))))
   cases oi au
   exact qd ⟨_,u,aF,u,aG,(J.trans cO)⟩
  rintro aD _ bU cQ ⟨ao,rfl,W,J⟩
  subst cQ
  refine sr (lv (rv_lss u u) (ns (wc_cond_f u (decide_eq_false (by omega)) (wc_exit (qe_then_exit (qe_then_exit (qe_block_eq ?_)))))))
  cases oi aC
  exact qe_mid' ⟨_,ao,u,u,W.s,J⟩ trivial
 rintro _ dJ ⟨dK,cR,rfl,rfl,cS,dL⟩
 have V:=elim_l V
 refine qr (lv (r_t u) (nq (wc_ret ?_)))
 cases oi V
 exact ey results105 ⟨cR,u,cS⟩

theorem ok_impl_DocsOk {q0:List GDoc}{r:Bool}(hS:SH w K [] w K [])(f:SliceAt tGDoc K A a b q0)(hm:M.impl_DocsOk F q0=some r):
  Calls prog 45 #[V3 A a b] w (R_b w K r):=by
 rw [M.impl_DocsOk] at hm
 refine ci func45 u ntmps45 (sr (lv (r_f u) (nsr (mv u (lv (rv_len underlying43 u f) (lv (r_m u) (nq ?_)))))))
 obtain⟨U,V,k⟩:=ob hm
 refine wc_cutg (IE U w K [] K [(0,V3 A a b)] []) ?_ ?_
 ·refine wc_block ?_
  obtain⟨bc,W,J⟩:=ob V
  refine qf (fun (m:Nat) (O:Unit)=>IV w K [] K [(0,V3 A a b),(5,V3 A a b),(6,V6 (q0.length:Int)),(7,V6 ((m:Nat):Int))] []) W ⟨K,u,hS,kr⟩ ?_ ?_
  ·rintro m O _ X bd hi23 Y aa ⟨o,rfl,l,i⟩
   refine sr (lv (rv_lss u u) (ns (wc_cond_t u (decide_eq_true (by omega)) (wc_skip (qe_seq (wc_seq (wc_block (sr (mv u ?_)))))))))
   obtain⟨q,ab,ac⟩:=ob Y
   refine li underlying43 tf77 (f.mono i) ab fun ad ae be af ag=>?_
   obtain⟨s,x,y,B,C,D,rfl,ah,ai,aj⟩:=af
   have ak:AtK _ ad ae [V6 q.Id,V3 s x y,V3 B C D]:=ag
   refine lv (rv_loadS tf77 u l ak u) (al tf77 l fun am bf an=>?_)
   have ao:SH _ _ _ _ _ [obj am [V6 0,V3 none 0 0,V3 none 0 0] 77]:=an
   refine av u (lw [V6 q.Id,V3 s x y,V3 B C D] tf77 ao fun bg ap=>(ns ?_))
   obtain⟨aq,ar,au⟩:=ob ac
   refine wc_cutg (IV w K [] o [(0,V3 A a b),(5,V3 A a b),(6,V6 (q0.length:Int)),(7,V6 ((m:Nat):Int)),(29,.bool aq)] []) ?_ ?_
   ·refine wc_quiet mixed (by kernel_rfl) ap (kh (rq_loadmS (ds:=[V6 q.Id,V3 s x y,V3 B C D]) tf77 u m0 u u) ?_)
    obtain⟨bh,aw,ax⟩:=ob ar
    refine kc co105 (fun _ _ ay R=>(ok_impl_DocOk F) ay.enter0 ah (ai.mono R) (aj.mono R) aw) (kv (rv_not u) (km u (bt ax (fun c G=>?_) (fun c G=>?_))))
    ·refine kn c (kn c (kn c ?_))
     iterate 9 refine ku ?_
     refine kn c (kv (p_t u c u) (wq_nil ?_))
     rintro bi ⟨az,aA,aB⟩
     cases oi G
     exact qd ⟨az,u,aA.s,aB⟩
    refine kg c (rv_move u) (kg c (rv_gtr u u) (kg c (rv_move u) (bt G (fun d H=>?_) (fun d H=>?_))))
    ·refine kg d (rv_move u) (kg d (rv_move u) (kg d (rv_sub u u) ?_))
     obtain⟨aC,aD,aE⟩:=ob H
     refine wq_indexAddr (t:=tGDoc) (wg u u d) u underlying43 tf77 u u (f.mono i) aD fun aF aG bj aH aI=>?_
     obtain⟨aJ,aK,aL,aM,aN,aO,rfl,bk,bl,bm⟩:=aH
     have aP:AtK _ aF aG [V6 aC.Id,V3 aJ aK aL,V3 aM aN aO]:=aI
     refine kg d (rv_fieldAddr ff77_0 u) (kgh d (rq_load1 tf3 u (aP 0 _ u)) (kg d (rv_fieldAddr ff77_0 u) (kgh d (rq_loadm1 tf3 u m0 u) (kg d (rv_geq u u) (kg c (rv_pick_t u d u) (kv (rv_pick_f u c u) (wq_nil ?_)))))))
     rintro bn ⟨aQ,aR,aS⟩
     cases oi aE
     exact qd ⟨aQ,u,aR.s,aS⟩
    iterate 9 refine kn d ?_
    refine kg c (p_f u d u) (kv (rv_pick_f u c u) (wq_nil ?_))
    rintro bo ⟨aT,aU,aV⟩
    cases oi H
    exact qd ⟨aT,u,aU.s,aV⟩
   rintro _ bp ⟨S,rfl,T,aW⟩
   refine qe_seq (wcc au u (fun aX I=>?_) (fun aX I=>?_))
   ·refine sr (lv (r_f u) (nq (wc_ret (qe_block_ret (qe_then_ret (qe_then_ret ?_))))))
    cases oi I
    cases aa _ u
    refine qe_block_ret (qe_then_ret ?_)
    cases oi J
    refine qe_then_ret ?_
    cases oi k
    exact ey results45 ⟨S,u,T⟩
   refine wc_skip (qe_block (qg (lv (rv_add_to u u (w64_succ hi23 (SliceAt.max f))) (mv u (wl_nil ?_)))))
   cases oi I
   exact qd ⟨_,u,S,u,T,(i.trans aW)⟩
  rintro O _ X aY ⟨o,rfl,l,i⟩
  subst aY
  refine sr (lv (rv_lss u u) (ns (wc_cond_f u (decide_eq_false (by omega)) (wc_exit (qe_then_exit (qe_then_exit (qe_block_eq ?_)))))))
  cases oi J
  exact qd ⟨_,o,u,u,l,i⟩
 rintro _ bq ⟨s8,K9,rfl,rfl,ba,bb⟩
 have k:=elim_l k
 refine qr (mv u (lv (rv_len underlying43 u (f.mono bb)) (lv (rv_leq u u) (av u (nq (wc_ret ?_))))))
 cases oi k
 exact ey results45 ⟨K9,u,ba⟩

theorem ok_impl_wordsAscend {q0:List Str}{r:Bool}(hS:SH w K [] w K [])(l:SliceAt tStr K A a b q0)(hm:M.impl_wordsAscend F q0=some r):
  Calls prog 122 #[V3 A a b] w (R_b w K r):=by
 rw [M.impl_wordsAscend] at hm
 refine ci func122 u ntmps122 (sr (lv (r_f u) (nsr (mv u (lv (rv_len underlying22 u l) (lv (r_m u) (nq ?_)))))))
 obtain⟨J,O,m⟩:=ob hm
 refine wc_cutg (IE J w K [] K [] []) ?_ ?_
 ·refine wc_block ?_
  obtain⟨aA,R,D⟩:=ob O
  refine qf (fun (q:Nat) (G:Unit)=>IV w K [] K [(0,V3 A a b),(5,V3 A a b),(6,V6 (q0.length:Int)),(7,V6 ((q:Nat):Int))] []) R ⟨K,u,hS,kr⟩ ?_ ?_
  ·rintro q G _ S aB hi23 T U ⟨s,rfl,f,i⟩
   refine sr (lv (rv_lss u u) (ns (wc_cond_t u (decide_eq_true (by omega)) (wc_skip (qe_seq (wc_seq (wc_block (sr (mv u ?_)))))))))
   obtain⟨V,W,X⟩:=ob T
   refine li underlying22 tf9 (l.mono i) W fun Y aa aC ab ac=>?_
   obtain⟨rfl,ad⟩:=ab
   have ae:AtK _ Y aa [sv V]:=ac
   refine lv (rv_load1 tf9 u f (ae 0 _ u)) (av u (av u (ns ?_)))
   obtain⟨af,ag,ah⟩:=ob X
   refine wc_cutg (IV w K [] s [(0,V3 A a b),(5,V3 A a b),(6,V6 (q0.length:Int)),(7,V6 ((q:Nat):Int)),(27,.bool af)] []) ?_ ?_
   ·refine wc_region (mv u ?_)
    obtain⟨aD,ai,aj⟩:=ob ag
    refine lk co123 (ok_impl_WordOk F f.enter0 ad ai) ?_
    rintro aE aF ⟨x,rfl,k⟩
    have o:=(f.c0 k).t0
    refine lv (rv_not u) (mv u (bt aj (fun c y=>?_) (fun c y=>?_)))
    ·refine lu c (lu c (lu c (wl_un (uu u u) u (wl_un (uu u u) u (wl_un (uu u u) u (wl_un (uu u u) u (wl_un (uu u u) u (wl_un (uu u u) u (wl_un (uu u u) u ?_)))))))))
     refine lu c (lv (p_t u c u) (wl_nil ?_))
     cases oi y
     exact qd ⟨x,u,o,k.le⟩
    refine lg c (rv_move u) (lg c (rv_gtr u u) (lg c (rv_move u) (bt y (fun d B=>?_) (fun d B=>?_))))
    ·refine lg d (rv_move u) (lg d (rv_move u) (lg d (rv_sub u u) ?_))
     obtain⟨ak,al,am⟩:=ob B
     refine wl_indexAddr (t:=tStr) (wg u u d) u underlying22 tf9 u u (l.mono (i.trans k.le)) al fun an ao aG ap aq=>?_
     obtain⟨rfl,aH⟩:=ap
     have ar:AtK _ an ao [sv ak]:=aq
     refine lg d (rv_load1 tf9 u o (ar 0 _ u)) (lg d (rv_move u) (lg d (rv_sgeq u u) (lg c (rv_pick_t u d u) (lv (rv_pick_f u c u) (wl_nil ?_)))))
     cases oi am
     exact qd ⟨x,u,o,k.le⟩
    iterate 7 refine lu d ?_
    refine lg c (p_f u d u) (lv (rv_pick_f u c u) (wl_nil ?_))
    cases oi B
    exact qd ⟨x,u,o,k.le⟩
   rintro _ aI ⟨H,rfl,I,au⟩
   refine qe_seq (wcc ah u (fun aw C=>?_) (fun aw C=>?_))
   ·refine sr (lv (r_f u) (nq (wc_ret (qe_block_ret (qe_then_ret (qe_then_ret ?_))))))
    cases oi C
    cases U _ u
    refine qe_block_ret (qe_then_ret ?_)
    cases oi D
    refine qe_then_ret ?_
    cases oi m
    exact ey results122 ⟨H,u,I⟩
   refine wc_skip (qe_block (qg (lv (rv_add_to u u (w64_succ hi23 (SliceAt.max l))) (mv u (wl_nil ?_)))))
   cases oi C
   exact qd ⟨_,u,H,u,I,(i.trans au)⟩
  rintro G _ S ax ⟨s,rfl,f,i⟩
  subst ax
  refine sr (lv (rv_lss u u) (ns (wc_cond_f u (decide_eq_false (by omega)) (wc_exit (qe_then_exit (qe_then_exit (qe_block_eq ?_)))))))
  cases oi D
  exact qe_mid' ⟨_,s,u,u,f,i⟩ trivial
 rintro _ aJ ⟨s8,K9,rfl,rfl,az,aL⟩
 have m:=elim_l m
 refine qr (lv (r_t u) (nq (wc_ret ?_)))
 cases oi m
 exact ey results122 ⟨K9,u,az⟩

theorem ok_stringslite_HasSuffix {q0:Str}{q1:Str}{r:Bool}(hS:SH w K [] w K [])(f:q0.length≤maxLen)(i:q1.length≤maxLen)(hm:M.stringslite_HasSuffix F q0 q1=some r):
  Calls prog 227 #[sv q0,sv q1] w (R_b w K r):=by
 rw [M.stringslite_HasSuffix] at hm
 refine ci func227 u ntmps227 (sr (lv (r_f u) (nr (mv u (lv (rv_slen underlying9 u) (mv u (lv (rv_slen underlying9 u) (lv (rv_geq u u) (mv u ?_)))))))))
 refine bt hm (fun a b=>?_) (fun a b=>?_)
 ·refine lg a (rv_move u) (lg a (rv_move u) (lg a (rv_slen underlying9 u) (lg a (rv_move u) (lg a (rv_slen underlying9 u) (lg a (rv_sub u u) ?_)))))
  obtain⟨k,c,d⟩:=ob b
  refine lg a (rv_ssl_l underlying9 u u c) (lg a (rv_move u) (lg a (rv_seql u u) (lv (rv_pick_t u a u) (av u (nq (wc_ret ?_))))))
  cases oi d
  exact ey results227 ⟨K,u,hS⟩
 iterate 9 refine lu a ?_
 refine lv (p_f u a u) (av u (nq (wc_ret ?_)))
 cases oi b
 exact ey results227 ⟨K,u,hS⟩

theorem ok_strings_HasSuffix {q0:Str}{q1:Str}{r:Bool}(hS:SH w K [] w K [])(a:q0.length≤maxLen)(b:q1.length≤maxLen)(hm:M.strings_HasSuffix F q0 q1=some r):
  Calls prog 186 #[sv q0,sv q1] w (R_b w K r):=by
 rw [M.strings_HasSuffix] at hm
 refine ci func186 u ntmps186 (sr (lv (r_f u) (nr (mv u (mv u ?_)))))
 obtain⟨l,c,d⟩:=ob hm
 refine lk co227 (ok_stringslite_HasSuffix F hS.enter0 a b c) ?_
 rintro m o ⟨f,rfl,i⟩
 have k:=(hS.c0 i).t0
 refine av u (nq (wc_ret ?_))
 cases oi d
 exact ey results186 ⟨f,u,k⟩

theorem ok_impl_StemOf {q0:Str}{r:Str}(hS:SH w K [] w K [])(D:q0.length≤maxLen)(hm:M.impl_StemOf F q0=some r):
  Calls prog 124 #[sv q0] w fun e w'=>∃K',e= .returned (sv r)∧SH w K [] w' K' []∧r.length≤maxLen:=by
 rw [M.impl_StemOf] at hm
 refine ci func124 u ntmps124 (sr (lv (r_s u) (nsr (mv u ?_))))
 obtain⟨r2,ab,h4⟩:=ob hm
 refine lk co123 (ok_impl_WordOk F hS.enter0 D ab) ?_
 rintro e8 w6 ⟨i,rfl,ad⟩
 have G:=(hS.c0 ad).t0
 refine lv (rv_not u) (nq (wcc h4 u (fun ae l=>?_) (fun ae l=>?_)))
 ·refine sr (lv (r_s u) (nq (rr ?_)))
  cases oi l
  exact ey results124 ⟨i,u,G,(by decide :([]:Str).length≤maxLen)⟩
 refine wc_skip (qs (sr (lv (r_t u) (nq ?_))))
 obtain⟨H,af,ag⟩:=ob l
 refine wc_cutg (IW w K [] i [(0,sv H)] [] (H.length≤maxLen)) ?_ ?_
 ·refine wc_block ?_
  obtain⟨aZ,ah,ai⟩:=ob af
  refine qw (fun (k:Str×Bool)=>IW w K [] i [(0,sv k.1),(3,.bool k.2)] [] (k.1.length≤maxLen)) ah ⟨i,u,G,kr,D⟩ ?_
  rintro k _ ba bb aj ak ⟨al,rfl,I,J,O⟩
  refine wc_seq (sr (mv u (nq (wcc aj u (fun am m=>?_) (fun am m=>?_)))))
  ·refine wc_skip (qe_seq (wc_block (sr (lv (r_f u) (nr (bw [[105,110,103],[101,100],[101,115],[108,121],[115]] underlying22 tf9 I fun R bc o an q ao=>(lv (rv_len underlying22 u q) (lv (r_m u) (nq ?_)))))))))
   obtain⟨s,ap,aq⟩:=ob m
   refine wc_cutg (IW w K [] o [(0,sv s.1),(3,.bool s.2)] [] (s.1.length≤maxLen)) ?_ ?_
   ·refine wc_block ?_
    obtain⟨bd,ar,S⟩:=ob ap
    have au:=ao.sb (sd sz)
    refine qf (fun (x:Nat) (b:Str×Bool)=>IW w K [] o [(0,sv b.1),(3,.bool b.2),(10,V3 R 5 5),(11,V6 (([([105,110,103]:Str),([101,100]:Str),([101,115]:Str),([108,121]:Str),([115]:Str)]:List Str).length:Int)),(12,V6 ((x:Nat):Int))] [] (b.1.length≤maxLen)) ar ⟨o,u,au,kr,O⟩ ?_ ?_
    ·rintro x b _ aw be hi60 ax ay ⟨y,rfl,c,d,f⟩
     refine sr (lv (rv_lss u u) (ns (wc_cond_t u (decide_eq_true (by omega)) (wc_skip (qe_seq (wc_seq (wc_block (sr ?_))))))))
     obtain⟨T,az,aA⟩:=ob ax
     refine li underlying22 tf9 (q.mono d) az fun aB aC bf aD aE=>?_
     obtain⟨rfl,aF⟩:=aD
     have aG:AtK _ aB aC [sv T]:=aE
     refine lv (rv_load1 tf9 u c (aG 0 _ u)) (av u (ns ?_))
     obtain⟨aH,aI,aJ⟩:=ob aA
     refine wc_cutg (IV w K [] y [(0,sv b.1),(3,.bool b.2),(5,sv T),(10,V3 R 5 5),(11,V6 (([([105,110,103]:Str),([101,100]:Str),([101,115]:Str),([108,121]:Str),([115]:Str)]:List Str).length:Int)),(12,V6 ((x:Nat):Int)),(26,.bool aH)] []) ?_ ?_
     ·refine wc_region (mv u (mv u ?_))
      obtain⟨bg,aK,aL⟩:=ob aI
      refine lk co186 (ok_strings_HasSuffix F c.enter0 f aF aK) ?_
      rintro bh bi ⟨U,rfl,A⟩
      have V:=(c.c0 A).t0
      refine mv u (bt aL (fun a B=>?_) (fun a B=>?_))
      ·refine lg a (rv_move u) (lg a (rv_slen underlying9 u) (lg a (rv_move u) (lg a (rv_slen underlying9 u) (lg a (rv_sub u u) (lg a (rv_geq u u) (lv (rv_pick_t u a u) (wl_nil ?_)))))))
       cases oi B
       exact qd ⟨U,u,V,A.le⟩
      iterate 6 refine lu a ?_
      refine lv (p_f u a u) (wl_nil ?_)
      cases oi B
      exact qd ⟨U,u,V,A.le⟩
     rintro _ bj ⟨W,rfl,X,Y⟩
     refine qe_seq (wcc aJ u (fun aM C=>?_) (fun aM C=>?_))
     ·refine sr (mv u (mv u (lv (rv_slen underlying9 u) (mv u (lv (rv_slen underlying9 u) (lv (rv_sub u u) ?_))))))
      obtain⟨bk,aa,aN⟩:=ob C
      refine lv (rv_ssl_h underlying9 u u aa) (av u (nr (lv (r_t u) (nq (wc_exit (qe_block_ne u (qe_then_exit (qe_then_exit ?_))))))))
      cases oi aN
      cases ay _ u
      refine qe_block_eq ?_
      cases oi S
      exact qd ⟨W,u,X,(d.trans Y),(len_sub f aa)⟩
     refine wc_skip (qe_block (qg (lv (rv_add_to u u (w64_succ hi60 (SliceAt.max q))) (mv u (wl_nil ?_)))))
     cases oi C
     exact qd ⟨_,u,W,u,X,(d.trans Y),f⟩
    rintro b _ aw aO ⟨y,rfl,c,d,f⟩
    subst aO
    refine sr (lv (rv_lss u u) (ns (wc_cond_f u (decide_eq_false (by omega)) (wc_exit (qe_then_exit (qe_then_exit (qe_block_eq ?_)))))))
    cases oi S
    exact qd ⟨y,u,c,d,f⟩
   rintro _ bl ⟨aP,rfl,aQ,aR,aS⟩
   refine qe_block ?_
   cases oi aq
   exact qd ⟨_,u,aP,u,aQ,((J.trans an).trans aR),aS⟩
  refine wc_exit (qe_then_exit (qe_then_exit ?_))
  cases oi m
  cases ak _ u
  refine qe_block_eq ?_
  cases oi ai
  exact qd ⟨al,u,I,J,O⟩
 rintro _ bm ⟨aT,rfl,aU,bn,aV⟩
 refine qr (mv u (av u (nq (wc_ret ?_))))
 cases oi ag
 exact ey results124 ⟨aT,u,aU,aV⟩

theorem ok_slices_Index_string {q0:List Str}{q1:Str}{r:Int}(hS:SH w K [] w K [])(d:SliceAt tStr K A a b q0)(Y:q1.length≤maxLen)(hm:M.slices_Index_string F q0 q1=some r):
  Calls prog 187 #[V3 A a b,sv q1] w (R_i w K r):=by
 rw [M.slices_Index_string] at hm
 refine ci func187 u ntmps187 (sr (lv (r_0 u) (nsr (mv u (lv (rv_len underlying22 u d) (lv (r_m u) (nq ?_)))))))
 obtain⟨s,x,f⟩:=ob hm
 refine wc_cutg (IE s w K [] K [] []) ?_ ?_
 ·refine wc_block ?_
  obtain⟨aa,y,m⟩:=ob x
  refine qf (fun (o:Nat) (q:Unit)=>IV w K [] K [(0,V3 A a b),(1,sv q1),(7,V6 (q0.length:Int)),(8,V6 ((o:Nat):Int))] []) y ⟨K,u,hS,kr⟩ ?_ ?_
  ·rintro o q _ B ab hi24 C D ⟨i,rfl,c,k⟩
   refine sr (lv (rv_lss u u) (ns (wc_cond_t u (decide_eq_true (by omega)) (wc_skip (qe_seq (wc_seq (wc_block (sr (mv u (av u (nr (mv u ?_))))))))))))
   refine mv u (mv u ?_)
   obtain⟨G,H,I⟩:=ob C
   refine li underlying22 tf9 (d.mono k) H fun J O ac R S=>?_
   obtain⟨rfl,ad⟩:=R
   have T:AtK _ J O [sv G]:=S
   refine lv (rv_load1 tf9 u c (T 0 _ u)) (lv (rv_seql u u) (nq (wcc I u (fun U l=>?_) (fun U l=>?_))))
   ·refine sr (mv u (av u (nq (wc_ret (qe_block_ret (qe_then_ret (qe_then_ret ?_)))))))
    cases oi l
    cases D _ u
    refine qe_block_ret (qe_then_ret ?_)
    cases oi m
    refine qe_then_ret ?_
    cases oi f
    exact ey results187 ⟨i,u,c,(rng_idx hi24 (SliceAt.max d))⟩
   refine wc_skip (qe_block (qg (lv (rv_add_to u u (w64_succ hi24 (SliceAt.max d))) (mv u (wl_nil ?_)))))
   cases oi l
   exact qd ⟨_,u,i,u,c,k⟩
  rintro q _ B V ⟨i,rfl,c,k⟩
  subst V
  refine sr (lv (rv_lss u u) (ns (wc_cond_f u (decide_eq_false (by omega)) (wc_exit (qe_then_exit (qe_then_exit (qe_block_eq ?_)))))))
  cases oi m
  exact qe_mid' ⟨_,i,u,u,c,k⟩ trivial
 rintro _ ae ⟨s9,W,rfl,rfl,X,ag⟩
 have f:=elim_l f
 refine qr (lv (rv_assign (v:=V6 (-1)) u) (nq (wc_ret ?_)))
 cases oi f
 exact ey results187 ⟨W,u,X,(by decide :rng64 (-1))⟩

theorem ok_slices_Contains_string {q0:List Str}{q1:Str}{r:Bool}(hS:SH w K [] w K [])(c:SliceAt tStr K A a b q0)(d:q1.length≤maxLen)(hm:M.slices_Contains_string F q0 q1=some r):
  Calls prog 125 #[V3 A a b,sv q1] w (R_b w K r):=by
 rw [M.slices_Contains_string] at hm
 refine ci func125 u ntmps125 (sr (lv (r_f u) (nr (mv u (mv u ?_)))))
 obtain⟨o,f,i⟩:=ob hm
 refine lk co187 (ok_slices_Index_string F hS.enter0 c d f) ?_
 rintro q s ⟨k,rfl,l,x⟩
 have m:=(hS.c0 l).t0
 refine lv (rv_geq u u) (av u (nq (wc_ret ?_)))
 cases oi i
 exact ey results125 ⟨k,u,m⟩

theorem ok_impl_ConfOk {q0:GConf}{r:Bool}(hS:SH w K [] w K [])(ae:SliceAt tStr K A a b q0.Stops)(U:SliceAt tGSyn K B c d q0.Syns)(hm:M.impl_ConfOk F q0=some r):
  Calls prog 59 #[.agg #[V3 A a b,V3 B c d]] w (R_b w K r):=by
 rw [M.impl_ConfOk] at hm
 refine ci func59 u ntmps59 (sr (bx u hS fun f cu aO=>?_))
 have x:SH _ _ _ _ _ [obj f [V3 A a b,V3 B c d] 33]:=aO
 refine lv (r_f u) (ns (wc_seq ?_))
 obtain⟨aP,aQ,aR⟩:=ob hm
 refine wc_cutg (IV w K [] K [(1,pt f),(22,.bool aP)] [obj f [V3 A a b,V3 B c d] 33]) ?_ ?_
 ·refine wc_region (fl ff33_0 u tf22 m0 x u (lv (rv_len underlying22 u ae) (lv (rv_gtr u u) (mv u (bt aQ (fun i af=>?_) (fun i af=>?_))))))
  ·refine lu i (lu i (lu i (lu i (lv (p_t u i u) (mv u (lu u (lu u (lu u (lu u ?_)))))))))
   refine lv (p_t u u u) (wl_nil ?_)
   cases oi af
   exact qd ⟨K,u,x,kr⟩
  refine lg i (rv_fieldAddr ff33_0 u) (lg i (rv_loadm1 tf22 u m0 x u) ?_)
  obtain⟨cv,aS,aT⟩:=ob af
  refine wl_call (wg u u i) u (rt_call (vs:=[V3 A a b]) co122 u) (ok_impl_wordsAscend F x.enter0 ae aS) ?_
  rintro cw cx ⟨aE,rfl,V⟩
  refine⟨_,u,?_⟩
  have ag:=(x.c0 V).t1
  refine lg i (rv_not u) (lv (rv_pick_f u i u) (mv u (bt aT (fun k ah=>?_) (fun k ah=>?_))))
  ·refine lu k (lu k (lu k (lu k (lv (p_t u k u) (wl_nil ?_)))))
   cases oi ah
   exact qd ⟨aE,u,ag,V.le⟩
  refine lg k (rv_fieldAddr ff33_1 u) (lg k (rv_loadm1 tf31 u m0 ag u) (lg k (rv_len underlying31 u (U.mono V.le)) (lg k (rv_gtr u u) (lv (rv_pick_f u k u) (wl_nil ?_)))))
  cases oi ah
  exact qd ⟨aE,u,ag,V.le⟩
 rintro _ cy ⟨W,rfl,ai,X⟩
 refine qe_seq (wcc aR u (fun aU aj=>?_) (fun aU aj=>?_))
 ·refine sr (lv (r_f u) (nq (rr ?_)))
  cases oi aj
  exact ey results59 ⟨W,u,ai.s⟩
 refine wc_skip (qs (sr (fl ff33_1 u tf31 m0 ai u (lv (rv_len underlying31 u (U.mono X)) (lv (r_m u) (nq ?_))))))
 obtain⟨aV,aW,y⟩:=ob aj
 refine wc_cutg (IE aV w K [] W [] []) ?_ ?_
 ·refine wc_block ?_
  obtain⟨cz,aX,ak⟩:=ob aW
  refine qf (fun (s:Nat) (aF:Unit)=>IV w K [] W [(1,pt f),(24,V3 B c d),(25,V6 (q0.Syns.length:Int)),(26,V6 ((s:Nat):Int))] [obj f [V3 A a b,V3 B c d] 33]) aX ⟨W,u,ai,kr⟩ ?_ ?_
  ·rintro s aF _ aY cA hi53 aZ aG ⟨am,rfl,Y,C⟩
   refine sr (lv (rv_lss u u) (ns (wc_cond_t u (decide_eq_true (by omega)) (wc_skip (qe_seq (wc_seq (wc_block (sr ?_))))))))
   obtain⟨D,ba,bb⟩:=ob aZ
   refine li underlying31 tf159 (U.mono (X.trans C)) ba fun bc bd cB be bf=>?_
   obtain⟨G,H,I,rfl,J,an⟩:=be
   have bg:AtK _ bc bd [V3 G H I,sv D.To]:=bf
   refine lv (rv_loadS tf159 u Y bg u) (al tf159 Y fun ao cC bh=>?_)
   have bi:SH _ _ _ _ _ [obj ao [V3 none 0 0,sv []] 159,_]:=bh
   refine lw [V3 G H I,sv D.To] tf159 bi fun cD aH=>(ns (wc_seq ?_))
   obtain⟨bj,bk,bl⟩:=ob bb
   refine wc_cutg (IV w K [] am [(1,pt f),(4,pt ao),(24,V3 B c d),(25,V6 (q0.Syns.length:Int)),(26,V6 ((s:Nat):Int)),(48,.bool bj)] [obj f [V3 A a b,V3 B c d] 33,obj ao [V3 G H I,sv D.To] 159]) ?_ ?_
   ·refine wc_quiet mixed (by kernel_rfl) aH (kv (rv_fieldAddr ff159_0 u) (kh (rq_loadm1 tf22 u m0 u) (kv (rv_len underlying22 u J) ?_)))
    obtain⟨cE,bm,bn⟩:=ob bk
    refine kc co108 (fun _ _ bo cF=>(ok_impl_within F) bo.enter0 J.rn (by decide :rng64 1) (by decide :rng64 3) bm) (kv (rv_not u) (km u (bt bn (fun l ap=>?_) (fun l ap=>?_))))
    ·refine kn l (kn l (kn l (kn l (kv (p_t u l u) (km u ?_)))))
     iterate 6 refine qv u u u u ?_
     refine kv (p_t u u u) (wq_nil ?_)
     rintro cG ⟨bp,bq,br⟩
     cases oi ap
     exact qd ⟨bp,u,bq.f1,br⟩
    refine kg l (rv_fieldAddr ff159_1 u) (kgh l (rq_loadm1 tf9 u m0 u) ?_)
    obtain⟨cH,bs,bu⟩:=ob ap
    refine kcg l co123 (fun _ _ bv cI=>(ok_impl_WordOk F) bv.enter0 an bs) (kg l (rv_not u) (kv (rv_pick_f u l u) (km u (bt bu (fun q aq=>?_) (fun q aq=>?_)))))
    ·iterate 6 refine kn q ?_
     refine kv (p_t u q u) (wq_nil ?_)
     rintro cJ ⟨bz,bA,bB⟩
     cases oi aq
     exact qd ⟨bz,u,bA.f1,bB⟩
    refine kg q (rv_fieldAddr ff159_1 u) (kgh q (rq_loadm1 tf9 u m0 u) ?_)
    obtain⟨cK,aI,bC⟩:=ob aq
    refine kdg q co124 (fun _ _ bD cL=>(ok_impl_StemOf F) bD.enter0 an aI) ?_
    obtain⟨_,_,_,⟨_,_,_,cM⟩,_⟩:=(ok_impl_StemOf F) aH.enter0 an aI []
    refine kg q (rv_fieldAddr ff159_1 u) (kgh q (rq_loadm1 tf9 u m0 u) (kg q (rv_sneq u u) (kv (rv_pick_f u q u) (wq_nil ?_))))
    rintro cN ⟨bE,bF,bG⟩
    cases oi bC
    exact qd ⟨bE,u,bF.f1,bG⟩
   rintro _ cO ⟨aa,rfl,ar,O⟩
   refine qe_seq (wcc bl u (fun bH au=>?_) (fun bH au=>?_))
   ·refine sr (lv (r_f u) (nq (rr (qe_block_ret (qe_then_ret (qe_then_ret ?_))))))
    cases oi au
    cases aG _ u
    refine qe_block_ret (qe_then_ret ?_)
    cases oi ak
    refine qe_then_ret ?_
    cases oi y
    exact ey results59 ⟨aa,u,ar.s⟩
   refine wc_skip (qr (fl ff159_0 u tf22 m1 ar u (lv (rv_len underlying22 u (J.mono O)) (lv (r_m u) (nq ?_)))))
   obtain⟨bI,bJ,ab⟩:=ob au
   refine wc_cutg (IE bI w K [] aa [(1,pt f),(24,V3 B c d),(25,V6 (q0.Syns.length:Int)),(26,V6 ((s:Nat):Int))] [obj f [V3 A a b,V3 B c d] 33]) ?_ ?_
   ·refine wc_block ?_
    obtain⟨cP,bK,aJ⟩:=ob bJ
    have bL:=ar.sb (sk (sd sz))
    refine qf (fun (aw:Nat) (aK:Unit)=>IV w K [] aa [(1,pt f),(24,V3 B c d),(25,V6 (q0.Syns.length:Int)),(26,V6 ((s:Nat):Int)),(50,V3 G H I),(51,V6 (D.From.length:Int)),(52,V6 ((aw:Nat):Int))] [obj f [V3 A a b,V3 B c d] 33]) bK ⟨aa,u,bL,kr⟩ ?_ ?_
    ·rintro aw aK _ bM cQ hi147 bN bO ⟨ax,rfl,R,S⟩
     refine sr (lv (rv_lss u u) (ns (wc_cond_t u (decide_eq_true (by omega)) (wc_skip (qe_seq (wc_seq (wc_block (sr ?_))))))))
     obtain⟨ay,bP,bQ⟩:=ob bN
     refine li underlying22 tf9 (J.mono (O.trans S)) bP fun bR bS cR bT bU=>?_
     obtain⟨rfl,az⟩:=bT
     have bV:AtK _ bR bS [sv ay]:=bU
     refine lv (rv_load1 tf9 u R (bV 0 _ u)) (av u (ns ?_))
     obtain⟨bW,bX,bY⟩:=ob bQ
     refine wc_cutg (IV w K [] ax [(1,pt f),(24,V3 B c d),(25,V6 (q0.Syns.length:Int)),(26,V6 ((s:Nat):Int)),(50,V3 G H I),(51,V6 (D.From.length:Int)),(52,V6 ((aw:Nat):Int)),(70,.bool bW)] [obj f [V3 A a b,V3 B c d] 33]) ?_ ?_
     ·refine wc_region (mv u ?_)
      obtain⟨cS,bZ,ca⟩:=ob bX
      refine lk co123 (ok_impl_WordOk F R.enter0 az bZ) ?_
      rintro cT cU ⟨cb,rfl,T⟩
      have aA:=(R.c0 T).t1
      refine lv (rv_not u) (mv u (bt ca (fun m aB=>?_) (fun m aB=>?_)))
      ·refine lu m (lu m (lu m (lu m (lv (p_t u m u) (mv u (lu u (lu u (lu u (lu u ?_)))))))))
       refine lv (p_t u u u) (wl_nil ?_)
       cases oi aB
       exact qd ⟨cb,u,aA,T.le⟩
      refine lg m (rv_move u) ?_
      obtain⟨cV,cc,cd⟩:=ob aB
      refine wl_call (wg u u m) u (rt_call (vs:=[sv ay]) co124 u) (ok_impl_StemOf F aA.enter0 az cc) ?_
      rintro cW cX ⟨ce,rfl,ac,cY⟩
      refine⟨_,u,?_⟩
      have ad:=(aA.c0 ac).t1
      refine lg m (rv_move u) (lg m (rv_sneq u u) (lv (rv_pick_f u m u) (mv u (bt cd (fun o aC=>?_) (fun o aC=>?_)))))
      ·refine lu o (lu o (lu o (lu o (lv (p_t u o u) (wl_nil ?_)))))
       cases oi aC
       exact qd ⟨ce,u,ad,(T.le.trans ac.le)⟩
      refine lg o (rv_fieldAddr ff33_0 u) (lg o (rv_loadm1 tf22 u m0 ad u) (lg o (rv_move u) ?_))
      obtain⟨cZ,cf,cg⟩:=ob aC
      refine wl_call (wg u u o) u (rt_call (vs:=[V3 A a b,sv ay]) co125 u) (ok_slices_Contains_string F ad.enter0 (SliceAt.mono (((((X.trans C).trans O).trans S).trans T.le).trans ac.le) ae) az cf) ?_
      rintro da db ⟨ch,rfl,aL⟩
      refine⟨_,u,?_⟩
      have cj:=(ad.c0 aL).t1
      refine lv (rv_pick_f u o u) (wl_nil ?_)
      cases oi cg
      exact qd ⟨ch,u,cj,((T.le.trans ac.le).trans aL.le)⟩
     rintro _ dc ⟨aM,rfl,aN,ck⟩
     refine qe_seq (wcc bY u (fun cl aD=>?_) (fun cl aD=>?_))
     ·refine sr (lv (r_f u) (nq (wc_ret (qe_block_ret (qe_then_ret (qe_then_ret ?_))))))
      cases oi aD
      cases bO _ u
      refine qe_block_ret (qe_then_ret ?_)
      cases oi aJ
      refine qe_block_ret (qe_then_ret (qe_then_ret ?_))
      cases oi ab
      cases aG _ u
      refine qe_block_ret (qe_then_ret ?_)
      cases oi ak
      refine qe_then_ret ?_
      cases oi y
      exact ey results59 ⟨aM,u,aN.s⟩
     refine wc_skip (qe_block (qg (lv (rv_add_to u u (w64_succ hi147 (SliceAt.max (J.mono O)))) (mv u (wl_nil ?_)))))
     cases oi aD
     exact qd ⟨_,u,aM,u,aN,(S.trans ck)⟩
    rintro aK _ bM cm ⟨ax,rfl,R,S⟩
    subst cm
    refine sr (lv (rv_lss u u) (ns (wc_cond_f u (decide_eq_false (by omega)) (wc_exit (qe_then_exit (qe_then_exit (qe_block_eq ?_)))))))
    cases oi aJ
    exact qd ⟨_,ax,u,u,R,S⟩
   rintro _ dd ⟨de,cn,rfl,rfl,cp,cq⟩
   have ab:=elim_l ab
   refine qe_block (qg (lv (rv_add_to u u (w64_succ hi53 (SliceAt.max (U.mono X)))) (mv u (wl_nil ?_))))
   cases oi ab
   exact qd ⟨_,u,cn,u,cp,((C.trans O).trans cq)⟩
  rintro aF _ aY cr ⟨am,rfl,Y,C⟩
  subst cr
  refine sr (lv (rv_lss u u) (ns (wc_cond_f u (decide_eq_false (by omega)) (wc_exit (qe_then_exit (qe_then_exit (qe_block_eq ?_)))))))
  cases oi ak
  exact qe_mid' ⟨_,am,u,u,Y.s,C⟩ trivial
 rintro _ df ⟨dg,cs,rfl,rfl,ct,dh⟩
 have y:=elim_l y
 refine qr (lv (r_t u) (nq (wc_ret ?_)))
 cases oi y
 exact ey results59 ⟨cs,u,ct⟩
end Go.Proofs.YtpjefkdclnmlfaaGreat
