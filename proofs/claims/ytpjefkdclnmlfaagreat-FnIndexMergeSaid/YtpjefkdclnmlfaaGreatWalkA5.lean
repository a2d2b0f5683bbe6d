/-
 Walks of the functions. Printed by gen.py.
-/
import Derived.Test.YtpjefkdclnmlfaaGreatWalkA3
import Derived.Test.YtpjefkdclnmlfaaGreatWalkA4
set_option linter.unusedVariables false
set_option linter.unusedSectionVars false
set_option maxRecDepth 100000
namespace Go.Proofs.YtpjefkdclnmlfaaGreat
set_option maxHeartbeats 4000000
open Go Go.Fk Go.RowKit Tryz
variable (F:Nat){w:World}{K:KMap}{Z:List Nat}{g1 g2 g3:Nat}{A B C D G H I J O R S T:Option Addr}{a b c d f i k l m n o p q s v x y aa ab ac ad ae af ag:Nat}
variable [dr:Dr]

theorem ok_spec_l8Has {q0:List Int}{q1:Int}{r:Bool}(hS:SH w K [] w K [])(o:SliceAt tInt K A a b q0)(X:rng64 q1)(hm:M.spec_l8Has F q0 q1=some r):
  Calls prog 219 #[V3 A a b,V6 q1] w (R_b w K r):=by
 rw [M.spec_l8Has] at hm
 refine ci func219 u ntmps219 (sr (lv (r_f u) (nsr (lv (r_0 u) (nq ?_)))))
 obtain⟨x,y,c⟩:=ob hm
 refine wc_cutg (IE x w K [] K [] []) ?_ ?_
 ·refine wc_block ?_
  obtain⟨Y,B,q⟩:=ob y
  refine qw (fun (i:Int)=>IW w K [] K [(0,V3 A a b),(1,V6 q1),(5,V6 i)] [] (rng64 i)) B ⟨K,u,hS,kr,d_0⟩ ?_
  rintro i _ aa ab C s ⟨k,rfl,d,f,ac⟩
  refine wc_seq (sr (mv u (mv u (lv (rv_len underlying71 u (o.mono f)) (lv (rv_lss u u) (nq (wcc C u (fun D l=>?_) (fun D l=>?_))))))))
  ·refine wc_skip (qs (wc_block (sr (mv u (mv u ?_)))))
   obtain⟨G,H,I⟩:=ob l
   refine li underlying71 tf3 (o.mono f) H fun J O ad R S=>?_
   obtain⟨rfl,ae⟩:=R
   have T:AtK _ J O [V6 G]:=S
   refine lv (rv_load1 tf3 u d (T 0 _ u)) (mv u (lv (rv_eql u u) (nq (wcc I u (fun U m=>?_) (fun U m=>?_)))))
   ·refine sr (lv (r_t u) (nq (wc_ret (qe_block_ret (qe_then_ret (qe_then_ret ?_))))))
    cases oi m
    cases s _ u
    refine qe_block_ret (qe_then_ret ?_)
    cases oi q
    refine qe_then_ret ?_
    cases oi c
    exact ey results219 ⟨k,u,d⟩
   refine wc_skip (qe_block (qe_seq (wc_region (mv u (lv (rv_add u u) (av u (wl_nil ?_)))))))
   cases oi m
   exact qd ⟨_,u,k,u,d,f,(w64_rng _)⟩
  refine wc_exit (qe_then_exit (qe_then_exit ?_))
  cases oi l
  cases s _ u
  refine qe_block_eq ?_
  cases oi q
  exact qe_mid' ⟨_,k,u,u,d,f⟩ trivial
 rintro _ af ⟨s9,V,rfl,rfl,W,ah⟩
 have c:=elim_l c
 refine qr (lv (r_f u) (nq (wc_ret ?_)))
 cases oi c
 exact ey results219 ⟨V,u,W⟩

theorem ok_spec_l18Dead {q0:GLive}{q1:Int}{r:Bool}(hS:SH w K [] w K [])(H:SliceAt tGDoc K A a b q0.Seg.Docs)(I:SliceAt tGEntry K B c d q0.Seg.Entries)(l:SliceAt tInt K C f i q0.Dead)(m:rng64 q1)(hm:M.spec_l18Dead F q0 q1=some r):
  Calls prog 167 #[.agg #[V3 A a b,V3 B c d,V3 C f i],V6 q1] w (R_b w K r):=by
 rw [M.spec_l18Dead] at hm
 refine ci func167 u ntmps167 (sr (bx u hS fun o J q=>?_))
 have k:SH _ _ _ _ _ [obj o [V3 A a b,V3 B c d,V3 C f i] 73]:=q
 refine lv (r_f u) (nr (fl ff73_1 u tf71 m0 k u (mv u ?_)))
 obtain⟨O,s,x⟩:=ob hm
 refine lk co219 (ok_spec_l8Has F k.enter0 l m s) ?_
 rintro R S ⟨y,rfl,D⟩
 have G:=(k.c0 D).t1
 refine av u (nq (wc_ret ?_))
 cases oi x
 exact ey results167 ⟨y,u,G.s⟩

theorem ok_spec_l18Put {q0:List GDoc}{q1:GDoc}{r:(List GDoc)}(hS:SH w K [] w K [])(m:SliceAt tGDoc K A a b q0)(ac:rng64 q1.Id)(ad:SliceAt tGField K B c d q1.Fields)(ae:SliceAt tGAttr K C f i q1.Nums)(hm:M.spec_l18Put F q0 q1=some r):
  Calls prog 168 #[V3 A a b,.agg #[V6 q1.Id,V3 B c d,V3 C f i]] w fun e w'=>∃a_1 n_2 c_3 K',e= .returned (V3 a_1 n_2 c_3)∧SH w K [] w' K' [tail (V3 a_1 n_2 c_3) 77 3]∧SliceAt tGDoc K' a_1 n_2 c_3 r:=by
 rw [M.spec_l18Put] at hm
 refine ci func168 u ntmps168 (sr (bx u hS fun l bC af=>?_))
 have ag:SH _ _ _ _ _ [obj l [V6 q1.Id,V3 B c d,V3 C f i] 77]:=af
 refine lv (r_n u) (nr (lv (r_0 u) (ns ?_)))
 obtain⟨W,ah,ai⟩:=ob hm
 refine wc_cutg (IW w K [] K [(0,V3 A a b),(3,pt l),(5,V6 W)] [obj l [V6 q1.Id,V3 B c d,V3 C f i] 77] (rng64 W)) ?_ ?_
 ·refine wc_block ?_
  obtain⟨bD,aj,ak⟩:=ob ah
  refine qw (fun (o:Int)=>IW w K [] K [(0,V3 A a b),(3,pt l),(5,V6 o)] [obj l [V6 q1.Id,V3 B c d,V3 C f i] 77] (rng64 o)) aj ⟨K,u,ag,kr,d_0⟩ ?_
  rintro o _ bE bF al am ⟨an,rfl,ao,q,ap⟩
  refine wc_seq (wc_seq ?_)
  obtain⟨aq,ar,au⟩:=ob al
  refine wc_cutg (IV w K [] an [(0,V3 A a b),(3,pt l),(5,V6 o),(20,.bool aq)] [obj l [V6 q1.Id,V3 B c d,V3 C f i] 77]) ?_ ?_
  ·refine wc_quiet mixed (by kernel_rfl) ao (km u (km u (kv (rv_len underlying43 u (m.mono q)) (kv (rv_lss u u) (km u (bt ar (fun k y=>?_) (fun k y=>?_)))))))
   ·refine kg k (rv_move u) (kg k (rv_move u) ?_)
    obtain⟨aw,ax,ay⟩:=ob y
    refine wq_indexAddr (t:=tGDoc) (wg u u k) u underlying43 tf77 u u (m.mono q) ax fun az aA bG aB aC=>?_
    obtain⟨aD,aE,aF,aG,aH,aI,rfl,bH,bI,bJ⟩:=aB
    have aJ:AtK _ az aA [V6 aw.Id,V3 aD aE aF,V3 aG aH aI]:=aC
    refine kg k (rv_fieldAddr ff77_0 u) (kgh k (rq_load1 tf3 u (aJ 0 _ u)) (kg k (rv_fieldAddr ff77_0 u) (kgh k (rq_loadm1 tf3 u m0 u) (kg k (rv_lss u u) (kv (rv_pick_t u k u) (wq_nil ?_))))))
    rintro bK ⟨aK,aL,aM⟩
    cases oi ay
    exact qd ⟨aK,u,aL,aM⟩
   iterate 8 refine kn k ?_
   refine kv (p_f u k u) (wq_nil ?_)
   rintro bL ⟨aN,aO,aP⟩
   cases oi y
   exact qd ⟨aN,u,aO,aP⟩
  rintro _ bM ⟨X,rfl,Y,aa⟩
  refine qe_seq (wcc au u (fun aQ D=>?_) (fun aQ D=>?_))
  ·refine wc_skip (qe_seq (wc_block (wc_region (mv u (lv (rv_add u u) (av u (nb ?_)))))))
   cases oi D
   exact qd ⟨_,u,X,u,Y,(q.trans aa),(w64_rng _)⟩
  refine wc_exit (qe_then_exit (qe_then_exit ?_))
  cases oi D
  cases am _ u
  refine qe_block_eq ?_
  cases oi ak
  exact qd ⟨X,u,Y,(q.trans aa),ap⟩
 rintro _ bN ⟨bO,rfl,aR,s,bP⟩
 refine qr (b0 tGDoc underlying43 tf77 aR fun bQ bR bS x aS aT=>(mv u (mv u ?_)))
 obtain⟨bT,aU,aV⟩:=ob ai
 refine wl_sl_h (t:=tGDoc) wn u underlying43 tf77 u u (m.mono (s.trans x)) aU fun bU bV bW aW=>?_
 obtain⟨bX,aX,aY⟩:=ob aV
 refine lp underlying43 tf77 aS aW aX aT fun bY bZ ca cb cc G aZ H=>(av u (nr (mv u (lv (rv_loadmS (ds:=[V6 q1.Id,V3 B c d,V3 C f i]) tf77 u m1 H u u) ?_))))
 obtain⟨I,ba,bb⟩:=ob aY
 refine lk co143 (ok_spec_l7CopyDoc F H.enter0 ac (ad.mono ((s.trans x).trans G)) (ae.mono ((s.trans x).trans G)) ba) ?_
 rintro cd ce ⟨J,O,R,S,T,U,cf,rfl,V,bc,bd,be⟩
 have bf:=(H.c0 V).t4
 refine lb tGDoc (.agg #[V6 I.Id,V3 J O R,V3 S T U]) [V6 I.Id,V3 J O R,V3 S T U] I underlying43 tf77 ⟨J,O,R,S,T,U,u,bc,bd,be⟩ bf fun cg ch cj ab bg bh=>?_
 obtain⟨ck,bi,bj⟩:=ob bb
 refine lp underlying43 tf77 (aZ.mono (V.le.trans ab)) bg bi bh.f3 fun cl cm cn cp cq bk bl bm=>(av u (nr (mv u (mv u (mv u ?_)))))
 obtain⟨cr,bn,bo⟩:=ob bj
 refine wl_sl_l (t:=tGDoc) wn u underlying43 tf77 u u (SliceAt.mono (((((s.trans x).trans G).trans V.le).trans ab).trans bk) m) bn fun cs ct cu bp=>?_
 obtain⟨cv,bq,br⟩:=ob bo
 refine lp underlying43 tf77 bl bp bq bm fun bs bu bv cw bz cx bA bB=>(av u (nq (wc_ret ?_)))
 cases oi br
 exact ey results168 ⟨bs,bu,bv,bz,u,bB.s,bA⟩

theorem ok_spec_l18Docs {q0:GIndex}{r:(List GDoc)}(hS:SH w K [] w K [])(cG:SliceAt tStr K A a b q0.Conf.Stops)(cH:SliceAt tGSyn K B c d q0.Conf.Syns)(aa:SliceAt tGLive K C f i q0.Segs)(hm:M.spec_l18Docs F q0=some r):
  Calls prog 99 #[.agg #[V3 A a b,V3 B c d,V3 C f i]] w fun e w'=>∃a_1 n_2 c_3 K',e= .returned (V3 a_1 n_2 c_3)∧SH w K [] w' K' [tail (V3 a_1 n_2 c_3) 77 3]∧SliceAt tGDoc K' a_1 n_2 c_3 r:=by
 rw [M.spec_l18Docs] at hm
 refine ci func99 u ntmps99 (sr (bx u hS fun l cI az=>?_))
 have aA:SH _ _ _ _ _ [obj l [V3 A a b,V3 B c d,V3 C f i] 36]:=az
 refine lv (r_n u) (nr (b0 tGDoc underlying43 tf77 aA fun aB cJ ae ab aC aD=>(av u (nsr (lv (r_0 u) (nq ?_))))))
 obtain⟨aE,aF,aG⟩:=ob hm
 refine wc_cutg (fun E' w'=>∃O R S T,E'=[(3,V3 O R S)]∧SH w K [] w' T [tail (V3 O R S) 77 3]∧KLe ae T∧SliceAt tGDoc T O R S aE) ?_ ?_
 ·refine wc_block ?_
  obtain⟨cK,aH,aI⟩:=ob aF
  refine qw (fun (o:(List GDoc)×Int) E' w'=>∃q s x k,E'=[(1,pt l),(3,V3 q s x),(4,V6 o.2)]∧SH w K [] w' k [obj l [V3 A a b,V3 B c d,V3 C f i] 36,tail (V3 q s x) 77 3]∧KLe ae k∧SliceAt tGDoc k q s x o.1∧rng64 o.2) aH ⟨aB,0,0,ae,u,aD.f1,kr,aC,d_0⟩ ?_
  rintro o _ cL cM aJ aK ⟨q,s,x,k,rfl,af,y,aw,cN⟩
  refine wc_seq (sr (mv u (fl ff36_1 u tf34 m0 af u (lv (rv_len underlying34 u (aa.mono (ab.trans y))) (lv (rv_lss u u) (nq (wcc aJ u (fun aL ag=>?_) (fun aL ag=>?_))))))))
  ·refine wc_skip (qs (wc_block (sr (lv (r_0 u) (nq ?_)))))
   obtain⟨aM,aN,aO⟩:=ob ag
   refine wc_cutg (fun E' w'=>∃U V W X,E'=[(1,pt l),(3,V3 U V W),(4,V6 o.2)]∧SH w K [] w' X [obj l [V3 A a b,V3 B c d,V3 C f i] 36,tail (V3 U V W) 77 3]∧KLe k X∧SliceAt tGDoc X U V W aM) ?_ ?_
   ·refine wc_block ?_
    obtain⟨cO,aP,aQ⟩:=ob aN
    refine qw (fun (ac:(List GDoc)×Int) E' w'=>∃D G H Y,E'=[(1,pt l),(3,V3 D G H),(4,V6 o.2),(5,V6 ac.2)]∧SH w K [] w' Y [obj l [V3 A a b,V3 B c d,V3 C f i] 36,tail (V3 D G H) 77 3]∧KLe k Y∧SliceAt tGDoc Y D G H ac.1∧rng64 ac.2) aP ⟨q,s,x,k,u,af,kr,aw,d_0⟩ ?_
    rintro ac _ cP cQ aR aS ⟨D,G,H,Y,rfl,m,I,ah,cR⟩
    refine wc_seq (sr (mv u (fl ff36_1 u tf34 m0 m u (mv u ?_))))
    obtain⟨cS,aT,aU⟩:=ob aR
    refine li underlying34 tf73 (aa.mono ((ab.trans y).trans I)) aT fun aV aW cT aX aY=>?_
    obtain⟨aZ,ba,bb,bc,bd,be,bf,bg,bh,rfl,bi,cU,cV⟩:=aX
    have bj:AtK _ aV aW [V3 aZ ba bb,V3 bc bd be,V3 bf bg bh]:=aY
    refine fa ff73_0 u (fa ff46_0 u (lv (rv_load1 tf43 u m (bj 0 _ u)) (lv (rv_len underlying43 u bi) (lv (rv_lss u u) (nq (wcc aU u (fun bk ai=>?_) (fun bk ai=>?_)))))))
    ·refine wc_skip (qs (wc_block (sr (fl ff36_1 u tf34 m0 m u (mv u ?_)))))
     obtain⟨cW,bl,bm⟩:=ob ai
     refine li underlying34 tf73 (aa.mono ((ab.trans y).trans I)) bl fun bn bo cX bp bq=>?_
     obtain⟨br,bs,bu,bv,bz,bA,bB,bC,bD,rfl,bE,cY,cZ⟩:=bp
     have bF:AtK _ bn bo [V3 br bs bu,V3 bv bz bA,V3 bB bC bD]:=bq
     refine fa ff73_0 u (fa ff46_0 u (lv (rv_load1 tf43 u m (bF 0 _ u)) (mv u ?_)))
     obtain⟨aj,bG,bH⟩:=ob bm
     refine li underlying43 tf77 bE bG fun bI bJ da bK bL=>?_
     obtain⟨ak,am,an,ao,ap,aq,rfl,ax,bM,bN⟩:=bK
     have bO:AtK _ bI bJ [V6 aj.Id,V3 ak am an,V3 ao ap aq]:=bL
     refine lv (rv_loadS tf77 u m bO u) (al tf77 m fun bP db bQ=>?_)
     have bR:SH _ _ _ _ _ [obj bP [V6 0,V3 none 0 0,V3 none 0 0] 77,_,_]:=bQ
     refine lw [V6 aj.Id,V3 ak am an,V3 ao ap aq] tf77 bR fun dc bS=>(ns (wc_quiet mixed (by kernel_rfl) bS (kv (rv_fieldAddr ff36_1 u) (kh (rq_loadm1 tf34 u m1 u) (km u ?_)))))
     obtain⟨dd,bT,bU⟩:=ob bH
     refine ki underlying34 tf73 (aa.mono ((ab.trans y).trans I)) bT fun bV bW de bX bY=>?_
     obtain⟨bZ,ca,cb,cc,cd,ce,cf,cg,ch,rfl,cj,ck,cl⟩:=bX
     have cm:AtK _ bV bW [V3 bZ ca cb,V3 cc cd ce,V3 cf cg ch]:=bY
     refine kh (rq_loadS tf73 u cm u) (kv (rv_fieldAddr ff77_0 u) (kh (rq_loadm1 tf3 u m0 u) ?_))
     obtain⟨df,cn,cp⟩:=ob bU
     refine kc co167 (fun _ _ cq ar=>(ok_spec_l18Dead F) cq.enter0 (cj.mono ar) (ck.mono ar) (cl.mono ar) ax cn) (kv (rv_not u) (wq_nil ?_))
     rintro dg ⟨cr,ad,J⟩
     refine qe_seq (wcc cp u (fun cs au=>?_) (fun cs au=>?_))
     ·refine wc_region (mv u (lv (rv_loadmS (ds:=[V6 aj.Id,V3 ak am an,V3 ao ap aq]) tf77 u m0 ad u u) ?_))
      obtain⟨dh,ct,cu⟩:=ob au
      refine lk co168 (ok_spec_l18Put F ad.enter0 (ah.mono J) ax (bM.mono J) (bN.mono J) ct) ?_
      rintro di dj ⟨cv,cw,cx,cy,rfl,ay,cz⟩
      have cA:=(ad.c0 ay).t4
      refine av u (nb (qe_seq (wc_region (mv u (lv (rv_add u u) (av u (wl_nil ?_)))))))
      cases oi cu
      exact qd ⟨_,u,cv,cw,cx,cy,u,cA.f2.s,((I.trans J).trans ay.le),cz,(w64_rng _)⟩
     refine wc_skip (qe_block (qe_seq (wc_region (mv u (lv (rv_add u u) (av u (wl_nil ?_)))))))
     cases oi au
     exact qd ⟨_,u,D,G,H,cr,u,ad.s,(I.trans J),(ah.mono J),(w64_rng _)⟩
    refine wc_exit (qe_then_exit (qe_then_exit ?_))
    cases oi ai
    cases aS _ u
    refine qe_block_eq ?_
    cases oi aQ
    exact qd ⟨D,G,H,Y,u,m,I,ah⟩
   rintro _ dk ⟨U,V,W,X,rfl,cB,cC,cD⟩
   refine qe_block (qe_seq (wc_region (mv u (lv (rv_add u u) (av u (wl_nil ?_))))))
   cases oi aO
   exact qd ⟨_,u,U,V,W,X,u,cB,(y.trans cC),cD,(w64_rng _)⟩
  refine wc_exit (qe_then_exit (qe_then_exit ?_))
  cases oi ag
  cases aK _ u
  refine qe_block_eq ?_
  cases oi aI
  exact qd ⟨q,s,x,k,u,af.s,y,aw⟩
 rintro _ dl ⟨O,R,S,T,rfl,cE,dm,cF⟩
 refine qr (mv u (av u (nq (wc_ret ?_))))
 cases oi aG
 exact ey results99 ⟨O,R,S,T,u,cE,cF⟩

theorem ok_spec_l3Up {q0:List Int}{r:Bool}(hS:SH w K [] w K [])(i:SliceAt tInt K A a b q0)(hm:M.spec_l3Up F q0=some r):
  Calls prog 119 #[V3 A a b] w (R_b w K r):=by
 rw [M.spec_l3Up] at hm
 refine ci func119 u ntmps119 (sr (lv (r_f u) (nsr (lv (r_0 u) (nq ?_)))))
 obtain⟨H,I,k⟩:=ob hm
 refine wc_cutg (IE H w K [] K [(0,V3 A a b)] []) ?_ ?_
 ·refine wc_block ?_
  obtain⟨aP,J,x⟩:=ob I
  refine qw (fun (l:Int)=>IW w K [] K [(0,V3 A a b),(3,V6 l)] [] (rng64 l)) J ⟨K,u,hS,kr,d_0⟩ ?_
  rintro l _ aQ aR O y ⟨B,rfl,C,f,aS⟩
  refine wc_seq (sr (mv u (mv u (lv (rv_len underlying71 u (i.mono f)) (lv (rv_lss u u) (nq (wcc O u (fun R m=>?_) (fun R m=>?_))))))))
  ·refine wc_skip (qs (wc_block (wc_seq ?_)))
   obtain⟨S,T,U⟩:=ob m
   refine wc_cutg (IV w K [] B [(0,V3 A a b),(3,V6 l),(31,.bool S)] []) ?_ ?_
   ·refine wc_quiet mixed (by kernel_rfl) C (km u (km u ?_))
    obtain⟨V,W,X⟩:=ob T
    refine ki underlying71 tf3 (i.mono f) W fun Y aa aT ab ac=>?_
    obtain⟨rfl,ad⟩:=ab
    have ae:AtK _ Y aa [V6 V]:=ac
    refine kh (rq_load1 tf3 u (ae 0 _ u)) ?_
    obtain⟨aU,af,ag⟩:=ob X
    refine kc co109 (fun _ _ ah aV=>(ok_spec_l1In F) ah.enter0 ad d_0 (by decide :rng64 999999999) af) (kv (rv_not u) (km u (bt ag (fun d o=>?_) (fun d o=>?_))))
    ·refine kn d (kn d (kn d ?_))
     iterate 10 refine ku ?_
     refine kn d (kv (p_t u d u) (wq_nil ?_))
     rintro aW ⟨ai,aj,ak⟩
     cases oi o
     exact qd ⟨ai,u,aj,ak⟩
    refine kg d (rv_move u) (kg d (rv_gtr u u) (kg d (rv_move u) (bt o (fun c q=>?_) (fun c q=>?_))))
    ·refine kg c (rv_move u) (kg c (rv_move u) ?_)
     obtain⟨al,am,an⟩:=ob q
     refine wq_indexAddr (t:=tInt) (wg u u c) u underlying71 tf3 u u (i.mono f) am fun ao ap aX aq ar=>?_
     obtain⟨rfl,aY⟩:=aq
     have au:AtK _ ao ap [V6 al]:=ar
     refine kgh c (rq_load1 tf3 u (au 0 _ u)) (kg c (rv_move u) (kg c (rv_move u) (kg c (rv_sub u u) ?_)))
     obtain⟨aw,ax,ay⟩:=ob an
     refine wq_indexAddr (t:=tInt) (wg u u c) u underlying71 tf3 u u (i.mono f) ax fun az aA aZ aB aC=>?_
     obtain⟨rfl,ba⟩:=aB
     have aD:AtK _ az aA [V6 aw]:=aC
     refine kgh c (rq_load1 tf3 u (aD 0 _ u)) (kg c (rv_leq u u) (kg d (rv_pick_t u c u) (kv (rv_pick_f u d u) (wq_nil ?_))))
     rintro bb ⟨aE,aF,aG⟩
     cases oi ay
     exact qd ⟨aE,u,aF,aG⟩
    iterate 10 refine kn c ?_
    refine kg d (p_f u c u) (kv (rv_pick_f u d u) (wq_nil ?_))
    rintro bc ⟨aH,aI,aJ⟩
    cases oi q
    exact qd ⟨aH,u,aI,aJ⟩
   rintro _ bd ⟨D,rfl,G,aK⟩
   refine qe_seq (wcc U u (fun aL s=>?_) (fun aL s=>?_))
   ·refine sr (lv (r_f u) (nq (wc_ret (qe_block_ret (qe_then_ret (qe_then_ret ?_))))))
    cases oi s
    cases y _ u
    refine qe_block_ret (qe_then_ret ?_)
    cases oi x
    refine qe_then_ret ?_
    cases oi k
    exact ey results119 ⟨D,u,G⟩
   refine wc_skip (qe_block (qe_seq (wc_region (mv u (lv (rv_add u u) (av u (wl_nil ?_)))))))
   cases oi s
   exact qd ⟨_,u,D,u,G,(f.trans aK),(w64_rng _)⟩
  refine wc_exit (qe_then_exit (qe_then_exit ?_))
  cases oi m
  cases y _ u
  refine qe_block_eq ?_
  cases oi x
  exact qd ⟨_,B,u,u,C,f⟩
 rintro _ be ⟨s8,K9,rfl,rfl,aN,aO⟩
 have k:=elim_l k
 refine qr (mv u (lv (rv_len underlying71 u (i.mono aO)) (lv (rv_leq u u) (av u (nq (wc_ret ?_))))))
 cases oi k
 exact ey results119 ⟨K9,u,aN⟩

theorem ok_spec_l12Doc {q0:GSeg}{q1:Int}{r:GDoc}(hS:SH w K [] w K [])(I:SliceAt tGDoc K A a b q0.Docs)(ba:SliceAt tGEntry K B c d q0.Entries)(bb:rng64 q1)(hm:M.spec_l12Doc F q0 q1=some r):
  Calls prog 120 #[.agg #[V3 A a b,V3 B c d],V6 q1] w fun e w'=>∃a_2 n_3 c_4 a_6 n_7 c_8 K',e= .returned (.agg #[V6 r.Id,V3 a_2 n_3 c_4,V3 a_6 n_7 c_8])∧SH w K [] w' K' []∧rng64 r.Id∧SliceAt tGField K' a_2 n_3 c_4 r.Fields∧SliceAt tGAttr K' a_6 n_7 c_8 r.Nums:=by
 rw [M.spec_l12Doc] at hm
 refine ci func120 u ntmps120 (sr (bx u hS fun J bc ao=>?_))
 have ap:SH _ _ _ _ _ [obj J [V3 A a b,V3 B c d] 46]:=ao
 refine al tf77 ap fun o bd aq=>?_
 have ar:SH _ _ _ _ _ [obj o [V6 0,V3 none 0 0,V3 none 0 0] 77,_]:=aq
 refine nsr (lv (r_0 u) (nq ?_))
 obtain⟨au,aw,H⟩:=ob hm
 refine wc_cutg (fun E' w'=>∃l O R S T U V m,au= .inl l∧E'=[(4,pt o)]∧SH w K [] w' m [obj o [V6 l.Id,V3 O R S,V3 T U V] 77]∧KLe K m∧rng64 l.Id∧SliceAt tGField m O R S l.Fields∧SliceAt tGAttr m T U V l.Nums) ?_ ?_
 ·refine wc_block ?_
  obtain⟨be,ax,af⟩:=ob aw
  refine qw (fun (k:Int×GDoc) E' w'=>∃q s x y C D f,E'=[(1,V6 q1),(2,pt J),(4,pt o),(5,V6 k.1)]∧SH w K [] w' f [obj J [V3 A a b,V3 B c d] 46,obj o [V6 k.2.Id,V3 q s x,V3 y C D] 77]∧KLe K f∧rng64 k.1∧rng64 k.2.Id∧SliceAt tGField f q s x k.2.Fields∧SliceAt tGAttr f y C D k.2.Nums) ax ⟨none,0,0,none,0,0,K,u,ar.f1,kr,d_0,d_0,(SliceAt.nil _ _),(SliceAt.nil _ _)⟩ ?_
  rintro k _ bf bg ay ag ⟨q,s,x,y,C,D,f,rfl,i,G,bh,ah,ai,aj⟩
  refine wc_seq (sr (mv u (fl ff46_0 u tf43 m0 i u (lv (rv_len underlying43 u (I.mono G)) (lv (rv_lss u u) (nq (wcc ay u (fun az W=>?_) (fun az W=>?_))))))))
  ·refine wc_skip (qs (wc_block (sr (fl ff46_0 u tf43 m0 i u (mv u ?_)))))
   obtain⟨aA,aB,aC⟩:=ob W
   refine li underlying43 tf77 (I.mono G) aB fun aD aE bi aF aG=>?_
   obtain⟨aH,aI,aJ,aK,aL,aM,rfl,bj,bk,bl⟩:=aF
   have aN:AtK _ aD aE [V6 aA.Id,V3 aH aI aJ,V3 aK aL aM]:=aG
   refine fa ff77_0 u (lv (rv_load1 tf3 u i (aN 0 _ u)) (mv u (lv (rv_eql u u) (nq (wcc aC u (fun aO X=>?_) (fun aO X=>?_))))))
   ·refine sr (fl ff46_0 u tf43 m0 i u (mv u ?_))
    obtain⟨ak,aP,aQ⟩:=ob X
    refine li underlying43 tf77 (I.mono G) aP fun aR aS bm aT aU=>?_
    obtain⟨Y,aa,ab,ac,ad,ae,rfl,aV,aW,aX⟩:=aT
    have aY:AtK _ aR aS [V6 ak.Id,V3 Y aa ab,V3 ac ad ae]:=aU
    refine lv (rv_loadS tf77 u i aY u) (lw [V6 ak.Id,V3 Y aa ab,V3 ac ad ae] tf77 i.f1 fun bn am=>(nq (wc_ret (qe_block_ret (qe_then_ret (qe_then_ret ?_))))))
    cases oi aQ
    cases ag _ u
    refine qe_block_ret (qe_then_ret ?_)
    cases oi af
    refine qe_then_ret ?_
    cases oi H
    exact ez results120 tf77 am m0 ⟨Y,aa,ab,ac,ad,ae,f,u,am.s,aV,aW,aX⟩
   refine wc_skip (qe_block (qe_seq (wc_region (mv u (lv (rv_add u u) (av u (wl_nil ?_)))))))
   cases oi X
   exact qd ⟨_,u,q,s,x,y,C,D,f,u,i,G,(w64_rng _),ah,ai,aj⟩
  refine wc_exit (qe_then_exit (qe_then_exit ?_))
  cases oi W
  cases ag _ u
  refine qe_block_eq ?_
  cases oi af
  exact qd ⟨_,q,s,x,y,C,D,f,u,u,i.s,G,ah,ai,aj⟩
 rintro _ bo ⟨l,O,R,S,T,U,V,m,rfl,rfl,aZ,bp,bq,br,bs⟩
 have H:=elim_l H
 refine qr (lv (rv_build (cs:=#[V6 0,V3 none 0 0,V3 none 0 0]) sp77 tf77 u (by kernel_rfl)) (lw [V6 0,V3 none 0 0,V3 none 0 0] tf77 aZ fun bu an=>(nq (wc_ret ?_))))
 cases oi H
 exact ez results120 tf77 an m0 ⟨none,0,0,none,0,0,m,u,an.s,d_0,(SliceAt.nil _ _),(SliceAt.nil _ _)⟩

theorem ok_spec_l18Ok {q0:GIndex}{r:Bool}(hS:SH w K [] w K [])(ao:SliceAt tStr K A a b q0.Conf.Stops)(ap:SliceAt tGSyn K B c d q0.Conf.Syns)(ae:SliceAt tGLive K C f i q0.Segs)(hm:M.spec_l18Ok F q0=some r):
  Calls prog 57 #[.agg #[V3 A a b,V3 B c d,V3 C f i]] w (R_b w K r):=by
 rw [M.spec_l18Ok] at hm
 refine ci func57 u ntmps57 (sr (bx u hS fun l cd aS=>?_))
 have aT:SH _ _ _ _ _ [obj l [V3 A a b,V3 B c d,V3 C f i] 36]:=aS
 refine lv (r_f u) (nsr (lv (r_0 u) (nq ?_)))
 obtain⟨aU,aV,Y⟩:=ob hm
 refine wc_cutg (IE aU w K [] K [(1,pt l)] [obj l [V3 A a b,V3 B c d,V3 C f i] 36]) ?_ ?_
 ·refine wc_block ?_
  obtain⟨ce,aW,aq⟩:=ob aV
  refine qw (fun (J:Int)=>IW w K [] K [(1,pt l),(3,V6 J)] [obj l [V3 A a b,V3 B c d,V3 C f i] 36] (rng64 J)) aW ⟨K,u,aT,kr,d_0⟩ ?_
  rintro J _ cf cg aX ar ⟨aI,rfl,aa,O,ch⟩
  refine wc_seq (sr (mv u (fl ff36_1 u tf34 m0 aa u (lv (rv_len underlying34 u (ae.mono O)) (lv (rv_lss u u) (nq (wcc aX u (fun aY au=>?_) (fun aY au=>?_))))))))
  ·refine wc_skip (qs (wc_block (sr (fl ff36_1 u tf34 m0 aa u (mv u ?_)))))
   obtain⟨cj,aZ,ba⟩:=ob au
   refine li underlying34 tf73 (ae.mono O) aZ fun bb bc ck bd be=>?_
   obtain⟨s,x,y,D,G,H,R,S,T,rfl,aw,aJ,af⟩:=bd
   have bf:AtK _ bb bc [V3 s x y,V3 D G H,V3 R S T]:=be
   refine lv (rv_loadS tf73 u aa bf u) (al tf73 aa fun U cl bg=>?_)
   have bh:SH _ _ _ _ _ [obj U [V3 none 0 0,V3 none 0 0,V3 none 0 0] 73,_]:=bg
   refine lw [V3 s x y,V3 D G H,V3 R S T] tf73 bh fun cm ag=>(ns (wc_seq ?_))
   obtain⟨bi,bj,bk⟩:=ob ba
   refine wc_cutg (IV w K [] aI [(1,pt l),(3,V6 J),(4,pt U),(39,.bool bi)] [obj l [V3 A a b,V3 B c d,V3 C f i] 36,obj U [V3 s x y,V3 D G H,V3 R S T] 73]) ?_ ?_
   ·refine wc_region (fa ff36_0 u (lv (rv_loadmS (ds:=[V3 A a b,V3 B c d]) tf33 u m1 ag u u) (fa ff73_0 u (lv (rv_loadmS (ds:=[V3 s x y,V3 D G H]) tf46 u m0 ag u u) ?_))))
    obtain⟨cn,bl,bm⟩:=ob bj
    refine lk co90 (ok_spec_l7Ok F ag.enter0 (ao.mono O) (ap.mono O) aw aJ bl) ?_
    rintro cp cq ⟨bn,rfl,I⟩
    have ah:=(ag.c0 I).t2
    refine lv (rv_not u) (mv u (bt bm (fun m ax=>?_) (fun m ax=>?_)))
    ·refine lu m (lu m (lu m (lu m (lv (p_t u m u) (mv u ?_)))))
     iterate 8 refine lu u ?_
     refine lv (p_t u u u) (wl_nil ?_)
     cases oi ax
     exact qd ⟨bn,u,ah.f1,I.le⟩
    refine lg m (rv_fieldAddr ff73_1 u) (lg m (rv_loadm1 tf71 u m0 ah u) ?_)
    obtain⟨cr,bo,bp⟩:=ob ax
    refine wl_call (wg u u m) u (rt_call (vs:=[V3 R S T]) co119 u) (ok_spec_l3Up F ah.enter0 (af.mono I.le) bo) ?_
    rintro cs ct ⟨aK,rfl,ab⟩
    refine⟨_,u,?_⟩
    have ai:=(ah.c0 ab).t2
    refine lg m (rv_not u) (lv (rv_pick_f u m u) (mv u (bt bp (fun k ay=>?_) (fun k ay=>?_))))
    ·iterate 8 refine lu k ?_
     refine lv (p_t u k u) (wl_nil ?_)
     cases oi ay
     exact qd ⟨aK,u,ai.f1,(I.le.trans ab.le)⟩
    refine lg k (rv_fieldAddr ff73_1 u) (lg k (rv_loadm1 tf71 u m0 ai u) (lg k (rv_len underlying71 u (af.mono (I.le.trans ab.le))) (lg k (rv_fieldAddr ff73_0 u) (lg k (rv_fieldAddr ff46_0 u) (lg k (rv_loadm1 tf43 u m0 ai u) (lg k (rv_len underlying43 u (aw.mono (I.le.trans ab.le))) (lg k (rv_geq u u) (lv (rv_pick_f u k u) (wl_nil ?_)))))))))
    cases oi ay
    exact qd ⟨aK,u,ai.f1,(I.le.trans ab.le)⟩
   rintro _ cu ⟨aj,rfl,aL,ac⟩
   refine qe_seq (wcc bk u (fun bq az=>?_) (fun bq az=>?_))
   ·refine sr (lv (r_f u) (nq (rr (qe_block_ret (qe_then_ret (qe_then_ret ?_))))))
    cases oi az
    cases ar _ u
    refine qe_block_ret (qe_then_ret ?_)
    cases oi aq
    refine qe_then_ret ?_
    cases oi Y
    exact ey results57 ⟨aj,u,aL.s⟩
   refine wc_skip (qr (lv (r_0 u) (nq ?_)))
   obtain⟨br,bs,ak⟩:=ob az
   refine wc_cutg (IE br w K [] aj [(1,pt l),(3,V6 J)] [obj l [V3 A a b,V3 B c d,V3 C f i] 36]) ?_ ?_
   ·refine wc_block ?_
    obtain⟨cv,bu,aM⟩:=ob bs
    refine qw (fun (aA:Int)=>IW w K [] aj [(1,pt l),(3,V6 J),(4,pt U),(5,V6 aA)] [obj l [V3 A a b,V3 B c d,V3 C f i] 36,obj U [V3 s x y,V3 D G H,V3 R S T] 73] (rng64 aA)) bu ⟨aj,u,aL,kr,d_0⟩ ?_
    rintro aA _ cw cx bv aN ⟨aO,rfl,aB,V,cy⟩
    refine wc_seq (sr (mv u (fl ff73_1 u tf71 m1 aB u (lv (rv_len underlying71 u (af.mono (ac.trans V))) (lv (rv_lss u u) (nq (wcc bv u (fun bz aC=>?_) (fun bz aC=>?_))))))))
    ·refine wc_skip (qs (wc_block (wc_seq ?_)))
     have am:=aB.drew
     refine wh1 (fun w'=>Holds aO w'∧HasObj U [V3 s x y,V3 D G H,V3 R S T] w') (fun w'=>True) 10 [] mixed ⟨am.hasK kr,am.hasObj m1⟩ (fun _=>trivial) (gt (rv_fieldAddr ff73_0 u) (gh (fun _ h=>rh_loadmS (ds:=[V3 s x y,V3 D G H]) tf46 u u u h.2) (gt (rv_fieldAddr ff73_1 u) (gh (fun _ h=>rh_loadm1 tf71 u u h.2) (gt (rv_move u) ?_)))))
     obtain⟨bA,bB,bC⟩:=ob aC
     refine gi underlying71 tf3 (af.mono (ac.trans V)) bB fun bD bE cz bF bG=>?_
     obtain⟨rfl,bH⟩:=bF
     have bI:AtK _ bD bE [V6 bA]:=bG
     refine gh (fun _ h=>rh_load1 tf3 u (bI 0 _ u) h.1) (gn ?_)
     obtain⟨cA,bJ,bK⟩:=ob bC
     refine lk co120 (ok_spec_l12Doc F am.enter0 (aw.mono (ac.trans V)) (aJ.mono (ac.trans V)) bH bJ) ?_
     rintro cB cC ⟨cD,cE,cF,cG,cH,cI,aP,rfl,aD,cJ,cK,cL⟩
     have an:=(am.c0 aD).t2
     refine wl_nil (qh ⟨an.hasK aD.le,an.hasObj m1⟩ (fun _=>trivial) (gt (rv_field fg77_0 tf3 u (.inl ⟨u,u⟩)) (gt (rv_eql u u) (gd' (qe_seq (wcc bK u (fun bL aE=>?_) (fun bL aE=>?_)))))))
     ·refine sr (lv (r_f u) (nq (wc_ret (qe_block_ret (qe_then_ret (qe_then_ret ?_))))))
      cases oi aE
      cases aN _ u
      refine qe_block_ret (qe_then_ret ?_)
      cases oi aM
      refine qe_block_ret (qe_then_ret (qe_then_ret ?_))
      cases oi ak
      cases ar _ u
      refine qe_block_ret (qe_then_ret ?_)
      cases oi aq
      refine qe_then_ret ?_
      cases oi Y
      exact ey results57 ⟨aP,u,an.s⟩
     refine wc_skip (qe_block (qe_seq (wc_region (mv u (lv (rv_add u u) (av u (wl_nil ?_)))))))
     cases oi aE
     exact qd ⟨_,u,aP,u,an,(V.trans aD.le),(w64_rng _)⟩
    refine wc_exit (qe_then_exit (qe_then_exit ?_))
    cases oi aC
    cases aN _ u
    refine qe_block_eq ?_
    cases oi aM
    exact qd ⟨_,aO,u,u,aB.s,V⟩
   rintro _ cM ⟨cN,bM,rfl,rfl,bN,bO⟩
   have ak:=elim_l ak
   refine qe_block (qe_seq (wc_region (mv u (lv (rv_add u u) (av u (wl_nil ?_))))))
   cases oi ak
   exact qd ⟨_,u,bM,u,bN,((O.trans ac).trans bO),(w64_rng _)⟩
  refine wc_exit (qe_then_exit (qe_then_exit ?_))
  cases oi au
  cases ar _ u
  refine qe_block_eq ?_
  cases oi aq
  exact qd ⟨_,aI,u,u,aa,O⟩
 rintro _ cO ⟨cP,cQ,rfl,rfl,aF,W⟩
 have Y:=elim_l Y
 refine qr (fa ff36_0 u (lv (rv_loadmS (ds:=[V3 A a b,V3 B c d]) tf33 u m0 aF u u) ?_))
 obtain⟨cR,bP,bQ⟩:=ob Y
 refine lk co66 (ok_spec_l2Ok F aF.enter0 (ao.mono W) (ap.mono W) bP) ?_
 rintro cS cT ⟨aQ,rfl,ad⟩
 have X:=(aF.c0 ad).t1
 refine mv u (bt bQ (fun o aG=>?_) (fun o aG=>?_))
 ·refine lg o (rv_fieldAddr ff36_1 u) (lg o (rv_loadm1 tf34 u m0 X u) (lg o (rv_len underlying34 u (ae.mono (W.trans ad.le))) (lg o (rv_leq u u) (lv (rv_pick_t u o u) (mv u (bt aG (fun q aH=>?_) (fun q aH=>?_)))))))
  ·refine lg q (rv_loadmS (ds:=[V3 A a b,V3 B c d,V3 C f i]) tf36 u m0 X u u) ?_
   obtain⟨cU,bR,bS⟩:=ob aH
   refine wl_call (wg u u q) u (rt_call (vs:=[.agg #[V3 A a b,V3 B c d,V3 C f i]]) co99 u) (ok_spec_l18Docs F X.enter0 (ao.mono (W.trans ad.le)) (ap.mono (W.trans ad.le)) (ae.mono (W.trans ad.le)) bR) ?_
   rintro cV cW ⟨bT,bU,bV,cX,rfl,bW,bX⟩
   refine⟨_,u,?_⟩
   have aR:=(X.c0 bW).t2
   obtain⟨cY,bY,bZ⟩:=ob bS
   refine wl_call (wg u u q) u (rt_call (vs:=[V3 bT bU bV]) co67 u) (ok_spec_l6Docs F aR.enter0 bX bY) ?_
   rintro cZ da ⟨ca,rfl,cb⟩
   refine⟨_,u,?_⟩
   have cc:=(aR.c0 cb).t2
   refine lv (rv_pick_t u q u) (av u (nq (wc_ret ?_)))
   cases oi bZ
   exact ey results57 ⟨ca,u,cc.s⟩
  refine lu q (lu q (lu q (lv (p_f u q u) (av u (nq (wc_ret ?_))))))
  cases oi aH
  exact ey results57 ⟨aQ,u,X.s⟩
 refine lu o (lu o (lu o (lu o (lv (p_f u o u) (mv u (lu u (lu u (lu u (lv (p_f u u u) ?_)))))))))
 refine av u (nq (wc_ret ?_))
 cases oi aG
 exact ey results57 ⟨aQ,u,X.s⟩

theorem ok_spec_IndexMerge {q0:GIndex}{q1:Int}{r:GIndex×Bool}(hS:SH w K [] w K [])(aE:SliceAt tStr K A a b q0.Conf.Stops)(aF:SliceAt tGSyn K B c d q0.Conf.Syns)(ar:SliceAt tGLive K C f i q0.Segs)(bX:rng64 q1)(hm:M.spec_IndexMerge F q0 q1=some r):
  Calls prog 48 #[.agg #[V3 A a b,V3 B c d,V3 C f i],V6 q1] w fun e w'=>∃a_1 n_2 c_3 a_5 n_6 c_7 a_9 n_10 c_11 K',e= .returned (.tuple #[.agg #[V3 a_1 n_2 c_3,V3 a_5 n_6 c_7,V3 a_9 n_10 c_11],.bool r.2])∧SH w K [] w' K' [tail (V3 a_9 n_10 c_11) 73 3]∧SliceAt tStr K' a_1 n_2 c_3 r.1.Conf.Stops∧SliceAt tGSyn K' a_5 n_6 c_7 r.1.Conf.Syns∧SliceAt tGLive K' a_9 n_10 c_11 r.1.Segs:=by
 rw [M.spec_IndexMerge] at hm
 refine ci func48 u ntmps48 (sr (bx u hS fun aG dB bY=>?_))
 have bZ:SH _ _ _ _ _ [obj aG [V3 A a b,V3 B c d,V3 C f i] 36]:=bY
 refine al tf36 bZ fun aY dC ca=>?_
 have aZ:SH _ _ _ _ _ [obj aY [V3 none 0 0,V3 none 0 0,V3 none 0 0] 36,_]:=ca
 refine lv (r_f u) (nsr (lv (rv_loadmS (ds:=[V3 A a b,V3 B c d,V3 C f i]) tf36 u m1 aZ u u) ?_))
 obtain⟨dD,cb,cc⟩:=ob hm
 refine lk co57 (ok_spec_l18Ok F aZ.enter0 aE aF ar cb) ?_
 rintro dE dF ⟨cd,rfl,T⟩
 have aH:=(aZ.c0 T).t2
 refine lv (rv_not u) (nq (wcc cc u (fun ce ba=>?_) (fun ce ba=>?_)))
 ·refine sr (lv (rv_build (cs:=#[V3 none 0 0,V3 none 0 0,V3 none 0 0]) sp36 tf36 u (by kernel_rfl)) (lw [V3 none 0 0,V3 none 0 0,V3 none 0 0] tf36 aH fun dG bN=>(lv (r_f u) (nq (rr ?_)))))
  cases oi ba
  have cf:=bN.nil 73 3
  exact qe_ret (vs:=[_,_]) results48 ⟨⟨_,_,u,run_loadVar_at tf36 (cs:=[V3 none 0 0,V3 none 0 0,V3 none 0 0]) (fun j c e=>by rw [Nat.zero_add,bN.mem_obj m0];exact e) (.inl ⟨u,u,u⟩)⟩,u,trivial⟩ ⟨none,0,0,none,0,0,none,0,0,cd,u,cf.s,(SliceAt.nil _ _),(SliceAt.nil _ _),(SliceAt.nil _ _)⟩
 refine wc_skip (qs (sr (mv u (fl ff36_1 u tf34 m1 aH u (lv (rv_len underlying34 u (ar.mono T.le)) (lv (rv_sub u u) ?_))))))
 obtain⟨dH,cg,ch⟩:=ob ba
 refine lk co109 (ok_spec_l1In F aH.enter0 bX d_0 (w64_rng _) cg) ?_
 rintro dI dJ ⟨dK,rfl,U⟩
 have ai:=(aH.c0 U).t2
 refine lv (rv_not u) (nq (wcc ch u (fun cj bb=>?_) (fun cj bb=>?_)))
 ·refine sr (lv (rv_loadmS (ds:=[V3 A a b,V3 B c d,V3 C f i]) tf36 u m1 ai u u) ?_)
  obtain⟨dL,ck,cl⟩:=ob bb
  refine lk co110 (ok_spec_l18Copy F ai.enter0 (aE.mono (T.le.trans U.le)) (aF.mono (T.le.trans U.le)) (ar.mono (T.le.trans U.le)) ck) ?_
  rintro dM dN ⟨bc,bd,be,bf,bg,bh,bi,bj,bk,cs64,dO,rfl,cm,cn,cp,hrow65,hm66⟩
  have cq:=(ai.c0 cm).t3
  obtain⟨cr,bO,ct,cu⟩:=SH.freezeI cq hrow65 hm66
  refine lw [V3 bc bd be,V3 bf bg bh,V3 bi bj bk] tf36 cu.f1 fun dP bP=>(lv (r_f u) (nq (rr ?_)))
  cases oi cl
  exact qe_ret (vs:=[_,_]) results48 ⟨⟨_,_,u,run_loadVar_at tf36 (cs:=[V3 bc bd be,V3 bf bg bh,V3 bi bj bk]) (fun j c e=>by rw [Nat.zero_add,bP.mem_obj m0];exact e) (.inl ⟨u,u,u⟩)⟩,u,trivial⟩ ⟨bc,bd,be,bf,bg,bh,bi,bj,bk,cr,u,bP.s,(cn.mono bO),(cp.mono bO),ct⟩
 refine wc_skip (qr (fl ff36_1 u tf34 m1 ai u (mv u (mv u (lv (rv_add u u) ?_)))))
 obtain⟨cv,cw,cx⟩:=ob bb
 refine wl_sl_lh (t:=tGLive) wn u underlying34 tf73 u u u (ar.mono (T.le.trans U.le)) cw fun cy cz cA cB=>(lv (rv_build (cs:=#[V3 none 0 0,V3 none 0 0,V3 cy cz cA]) sp36 tf36 u (by kernel_rfl)) ?_)
 obtain⟨dQ,cC,cD⟩:=ob cx
 refine lk co99 ((ok_spec_l18Docs F (q0:=(GIndex.mk (GConf.mk ([]:List Str) ([]:List GSyn)) cv))) ai.enter0 (SliceAt.nil _ _) (SliceAt.nil _ _) cB cC) ?_
 rintro dR dS ⟨cE,cF,cG,dT,rfl,aj,cH⟩
 have bl:=(ai.c0 aj).t3
 refine av u (nr (lv (rv_loadmS (ds:=[V3 A a b,V3 B c d,V3 C f i]) tf36 u m2 bl u u) ?_))
 obtain⟨dU,cI,cJ⟩:=ob cD
 refine lk co110 (ok_spec_l18Copy F bl.enter0 (aE.mono ((T.le.trans U.le).trans aj.le)) (aF.mono ((T.le.trans U.le).trans aj.le)) (ar.mono ((T.le.trans U.le).trans aj.le)) cI) ?_
 rintro dV dW ⟨m,o,q,s,x,y,Y,aa,ab,cs113,dX,rfl,aI,bm,bn,hrow114,hm115⟩
 have cK:=(bl.c0 aI).t4
 obtain⟨bQ,V,bR,cL⟩:=SH.freezeI cK hrow114 hm115
 refine al tf36 cL fun ac dY cM=>?_
 have cN:SH _ _ _ _ _ [obj ac [V3 none 0 0,V3 none 0 0,V3 none 0 0] 36,_,_,_,_]:=cM
 refine lw [V3 m o q,V3 s x y,V3 Y aa ab] tf36 cN fun dZ cO=>(ns ?_)
 obtain⟨bo,cP,cQ⟩:=ob cJ
 refine wc_cutg (fun E' w'=>∃ak H I J O R S au aw ax ae,E'=[(1,V6 q1),(2,pt aG),(4,pt aY),(6,V3 cE cF cG),(7,pt ac),(8,pt ak)]∧SH w K [] w' ae [obj ak [V3 H I J,V3 O R S,V3 au aw ax] 36,tail (V3 au aw ax) 73 3,obj aG [V3 A a b,V3 B c d,V3 C f i] 36,obj aY [V3 none 0 0,V3 none 0 0,V3 none 0 0] 36,obj ac [V3 m o q,V3 s x y,V3 Y aa ab] 36,tail (V3 Y aa ab) 73 3]∧KLe bQ ae∧SliceAt tStr ae H I J bo.Conf.Stops∧SliceAt tGSyn ae O R S bo.Conf.Syns∧SliceAt tGLive ae au aw ax bo.Segs) ?_ ?_
 ·obtain⟨ea,cR,cS⟩:=ob cP
  obtain⟨eb,bp,bq⟩:=ob cS
  refine wc_held (fun w'=>Holds bQ w'∧HasObj ac [V3 m o q,V3 s x y,V3 Y aa ab] w') (fun w'=>True) 11 [] mixed ?_
  have G:=cO.drew
  refine wg_val (i:=0) (listed':=L_ 11 0) (fun _=>True) u (by kernel_rfl) (pk_then (pk_then pk_body)) (by kernel_rfl) u (by kernel_rfl) (by kernel_rfl) u (.inl fun _ _=>trivial) ⟨⟨G.hasK kr,G.hasObj m0⟩,(fun _=>trivial),by decide⟩ wn u (fun _ _=>(rv_fieldAddr ff36_0 u)) (wg_val (i:=1) (listed':=L_ 11 1) (HasObj ac [V3 m o q,V3 s x y,V3 Y aa ab]) u (by kernel_rfl) (pk_then (pk_then pk_body)) (by kernel_rfl) u (by kernel_rfl) (by kernel_rfl) u (.inl fun _ h=>h.2) ⟨⟨G.hasK kr,G.hasObj m0⟩,(fun _=>trivial),by decide⟩ wn u (fun _ h=>rh_loadmS (ds:=[V3 m o q,V3 s x y]) tf33 u u u h) (wg_val (i:=3) (listed':=#[true,true,false,true,false,false,false,false,false,false,false]) (fun _=>True) u (by kernel_rfl) (pk_then (pk_then pk_body)) (by kernel_rfl) u (by kernel_rfl) (by kernel_rfl) u (.inl fun _ _=>trivial) ⟨⟨G.hasK kr,G.hasObj m0⟩,(fun _=>trivial),by decide⟩ wn u (fun _ _=>(rv_fieldAddr ff36_1 u)) ?_))
  refine wg_val (i:=4) (listed':=#[true,true,false,true,true,false,false,false,false,false,false]) (HasObj ac [V3 m o q,V3 s x y,V3 Y aa ab]) u (by kernel_rfl) (pk_then (pk_then pk_body)) (by kernel_rfl) u (by kernel_rfl) (by kernel_rfl) u (.inl fun _ h=>h.2) ⟨⟨G.hasK kr,G.hasObj m0⟩,(fun _=>trivial),by decide⟩ wn u (fun _ h=>rh_loadm1 tf34 u u h) (wg_val (i:=5) (listed':=#[true,true,false,true,true,true,false,false,false,false,false]) (fun _=>True) u (by kernel_rfl) (pk_then (pk_then pk_body)) (by kernel_rfl) u (by kernel_rfl) (by kernel_rfl) u (.inl fun _ _=>trivial) ⟨⟨G.hasK kr,G.hasObj m0⟩,(fun _=>trivial),by decide⟩ wn u (fun _ _=>(rv_move u)) (wg_sl_h (t:=tGLive) (j:=6) (listed':=#[true,true,false,true,true,true,true,false,false,false,false]) u (by kernel_rfl) (pk_then (pk_then pk_body)) (by kernel_rfl) u (by kernel_rfl) (by kernel_rfl) u ⟨⟨G.hasK kr,G.hasObj m0⟩,(fun _=>trivial),by decide⟩ wn u underlying34 tf73 u u bR cR fun ec ed ee br=>(wg_many (l:=[2,9]) (by kernel_rfl) u ⟨⟨_,u,?_⟩,⟨_,u,?_⟩,trivial⟩)))
  ·refine b0 tGLive underlying34 tf73 G fun ef eg eh D bS aJ=>(wl_nil (qe_held (listed':=L_ 11 6) u ⟨⟨aJ.hasK D,aJ.hasObj m1⟩,(fun _=>trivial),by decide⟩ (wg_many (l:=[7,9]) (by kernel_rfl) u ⟨⟨_,u,?_⟩,⟨_,u,?_⟩,trivial⟩)))
   ·refine lp underlying34 tf73 bS (br.mono D) bp aJ fun bs bu bv ei cT af cU ay=>(wl_nil (qe_held (listed':=L_ 11 7) u ⟨⟨ay.hasK (D.trans af),ay.hasObj m1⟩,(fun _=>trivial),by decide⟩ (wg_val (i:=8) (listed':=L_ 11 8) (fun _=>True) u (by kernel_rfl) (pk_then (pk_then pk_body)) (by kernel_rfl) u (by kernel_rfl) (by kernel_rfl) u (.inl fun _ _=>trivial) ⟨⟨ay.hasK (D.trans af),ay.hasObj m1⟩,(fun _=>trivial),by decide⟩ wn u (fun _ _=>(rv_build (cs:=#[V3 m o q,V3 s x y,V3 bs bu bv]) sp36 tf36 u (by kernel_rfl))) (wg_one (i:=9) (by kernel_rfl) u (al tf36 ay fun bT ej cV=>?_)))))
    have bz:SH _ _ _ _ _ [obj bT [V3 none 0 0,V3 none 0 0,V3 none 0 0] 36,_,_,_,_,_,_]:=cV
    refine wl_nil (qe_held (listed':=L_ 11 9) u ⟨⟨bz.hasK (D.trans af),bz.hasObj m2⟩,(fun _=>trivial),by decide⟩ (wg_one (i:=10) (by kernel_rfl) u (lw [V3 m o q,V3 s x y,V3 bs bu bv] tf36 bz fun ek bA=>(wl_nil (qe_held (listed':=L_ 11 10) u ⟨⟨bA.hasK (D.trans af),bA.hasObj m2⟩,(fun _=>trivial),by decide⟩ (wg_done (by kernel_rfl) ?_))))))
    cases oi bq
    exact qd ⟨bT,m,o,q,s,x,y,bs,bu,bv,cT,u,bA.f3.f3.f5.f6.f5.f5.s,(D.trans af),(bm.mono ((V.trans D).trans af)),(bn.mono ((V.trans D).trans af)),cU⟩
   refine al tf36 aJ fun bU el cW=>?_
   have bB:SH _ _ _ _ _ [obj bU [V3 none 0 0,V3 none 0 0,V3 none 0 0] 36,_,_,_,_,_,_]:=cW
   refine wl_nil (qe_held (listed':=#[true,true,true,true,true,true,true,false,false,true,false]) u ⟨⟨bB.hasK D,bB.hasObj m2⟩,(fun _=>trivial),by decide⟩ (wg_one (i:=7) (by kernel_rfl) u (lp underlying34 tf73 bS (br.mono D) bp bB.f1 fun bC bD bE em cX am cY az=>(wl_nil (qe_held (listed':=#[true,true,true,true,true,true,true,true,false,true,false]) u ⟨⟨az.hasK (D.trans am),az.hasObj m2⟩,(fun _=>trivial),by decide⟩ (wg_val (i:=8) (listed':=L_ 11 9) (fun _=>True) u (by kernel_rfl) (pk_then (pk_then pk_body)) (by kernel_rfl) u (by kernel_rfl) (by kernel_rfl) u (.inl fun _ _=>trivial) ⟨⟨az.hasK (D.trans am),az.hasObj m2⟩,(fun _=>trivial),by decide⟩ wn u (fun _ _=>(rv_build (cs:=#[V3 m o q,V3 s x y,V3 bC bD bE]) sp36 tf36 u (by kernel_rfl))) (wg_one (i:=10) (by kernel_rfl) u (lw [V3 m o q,V3 s x y,V3 bC bD bE] tf36 az.f1 fun en bF=>?_))))))))
   refine wl_nil (qe_held (listed':=L_ 11 10) u ⟨⟨bF.hasK (D.trans am),bF.hasObj m2⟩,(fun _=>trivial),by decide⟩ (wg_done (by kernel_rfl) ?_))
   cases oi bq
   exact qd ⟨bU,m,o,q,s,x,y,bC,bD,bE,cX,u,bF.f3.f3.f5.f6.f5.f5.s,(D.trans am),(bm.mono ((V.trans D).trans am)),(bn.mono ((V.trans D).trans am)),cY⟩
  refine al tf36 G fun bV eo cZ=>?_
  have bG:SH _ _ _ _ _ [obj bV [V3 none 0 0,V3 none 0 0,V3 none 0 0] 36,_,_,_,_,_]:=cZ
  refine wl_nil (qe_held (listed':=#[true,true,false,true,true,true,true,false,false,true,false]) u ⟨⟨bG.hasK kr,bG.hasObj m1⟩,(fun _=>trivial),by decide⟩ (wg_one (i:=2) (by kernel_rfl) u (b0 tGLive underlying34 tf73 bG fun ep eq es ad da bH=>(wl_nil (qe_held (listed':=#[true,true,true,true,true,true,true,false,false,true,false]) u ⟨⟨bH.hasK ad,bH.hasObj m2⟩,(fun _=>trivial),by decide⟩ (wg_one (i:=7) (by kernel_rfl) u (lp underlying34 tf73 da (br.mono ad) bp bH fun bI bJ bK et db an dc aA=>(wl_nil (qe_held (listed':=#[true,true,true,true,true,true,true,true,false,true,false]) u ⟨⟨aA.hasK (ad.trans an),aA.hasObj m2⟩,(fun _=>trivial),by decide⟩ (wg_val (i:=8) (listed':=L_ 11 9) (fun _=>True) u (by kernel_rfl) (pk_then (pk_then pk_body)) (by kernel_rfl) u (by kernel_rfl) (by kernel_rfl) u (.inl fun _ _=>trivial) ⟨⟨aA.hasK (ad.trans an),aA.hasObj m2⟩,(fun _=>trivial),by decide⟩ wn u (fun _ _=>(rv_build (cs:=#[V3 m o q,V3 s x y,V3 bI bJ bK]) sp36 tf36 u (by kernel_rfl))) (wg_one (i:=10) (by kernel_rfl) u ?_)))))))))))
  refine lw [V3 m o q,V3 s x y,V3 bI bJ bK] tf36 aA.f1 fun eu bL=>(wl_nil (qe_held (listed':=L_ 11 10) u ⟨⟨bL.hasK (ad.trans an),bL.hasObj m2⟩,(fun _=>trivial),by decide⟩ (wg_done (by kernel_rfl) ?_)))
  cases oi bq
  exact qd ⟨bV,m,o,q,s,x,y,bI,bJ,bK,db,u,bL.f3.f3.f5.f6.f5.f5.s,(ad.trans an),(bm.mono ((V.trans ad).trans an)),(bn.mono ((V.trans ad).trans an)),dc⟩
 rintro _ ev ⟨ak,H,I,J,O,R,S,au,aw,ax,ae,rfl,dd,aK,de,df,dg⟩
 refine qs ?_
 have aB:=dd.drew
 refine wh1 (fun w'=>Holds ae w'∧HasObj aG [V3 A a b,V3 B c d,V3 C f i] w') (fun w'=>HasObj ak [V3 H I J,V3 O R S,V3 au aw ax] w') 10 [(1,8),(1,9),(1,10),(8,9),(8,10),(9,10)] mixed ⟨aB.hasK kr,aB.hasObj m2⟩ (fun _=>aB.hasObj (.head _)) (gt (rv_fieldAddr ff36_1 u) (gf (fun _ h=>rh_loadm1 tf34 u u h) (gt (rv_fieldAddr ff36_0 u) (gh (fun _ h=>rh_loadmS (ds:=[V3 A a b,V3 B c d]) tf33 u u u h.2) (gt (rv_move u) (gn ?_))))))
 obtain⟨dh,di,dj⟩:=ob cQ
 refine lk co68 (ok_spec_l7Of F aB.enter0 (SliceAt.mono (((((T.le.trans U.le).trans aj.le).trans aI.le).trans V).trans aK) aE) (SliceAt.mono (((((T.le.trans U.le).trans aj.le).trans aI.le).trans V).trans aK) aF) (cH.mono ((aI.le.trans V).trans aK)) di) ?_
 rintro ew ex ⟨aL,aM,aN,aO,aP,aQ,cs277,eA,rfl,W,dk,hrow278,hm279⟩
 have dl:=(aB.c0 W).t8
 obtain⟨eB,X,dm,aR⟩:=SH.freezeI dl.f1 hrow278 hm279
 refine wl_nil (qh ⟨aR.hasK (W.le.trans X),aR.hasObj m4⟩ (fun _=>aR.hasObj (.tail _ (.tail _ (.head _)))) (gt (rv_build (cs:=#[V3 aL aM aN,V3 aO aP aQ,V3 none 0 0]) sp73 tf73 u (by kernel_rfl)) (gn (lb tGLive (.agg #[V3 aL aM aN,V3 aO aP aQ,V3 none 0 0]) [V3 aL aM aN,V3 aO aP aQ,V3 none 0 0] (GLive.mk dh ([]:List Int)) underlying34 tf73 ⟨aL,aM,aN,aO,aP,aQ,none,0,0,u,(dk.mono X),dm,(SliceAt.nil _ _)⟩ aR fun eC eD eE ag dn aS=>(wl_nil (qh ⟨aS.hasK ((W.le.trans X).trans ag),aS.hasObj m5⟩ (fun _=>aS.hasObj (.tail _ (.tail _ (.tail _ (.head _))))) (gn ?_)))))))
 obtain⟨eF,dp,dq⟩:=ob dj
 refine lp underlying34 tf73 (dg.mono ((W.le.trans X).trans ag)) dn dp aS.f4 fun aT aU aV eG dr aC dt aW=>(wl_nil (qh ⟨aW.hasK (((W.le.trans X).trans ag).trans aC),aW.hasObj m5⟩ (fun _=>aW.hasObj (.tail _ (.tail _ (.tail _ (.tail _ (.head _)))))) (gt (rv_fieldAddr ff36_1 u) (gn (ls [V3 H I J,V3 O R S,V3 aT aU aV] (V3 aT aU aV) tf34 aW.f4 fun eH bM=>(wl_nil (qh ⟨bM.hasK (((W.le.trans X).trans ag).trans aC),bM.hasObj m5⟩ (fun h=>nomatch h) (gd' (qs (wc_held (fun w'=>Holds dr w'∧HasObj ac [V3 m o q,V3 s x y,V3 Y aa ab] w') (fun w'=>HasObj ak [V3 H I J,V3 O R S,V3 aT aU aV] w') 9 [(1,7),(1,8),(1,9),(7,8),(7,9),(8,9)] mixed ?_))))))))))
 have k:=bM.drew
 refine wg_val (i:=0) (listed':=L_ 10 0) (fun _=>True) u (by kernel_rfl) (pk_then pk_body) (by kernel_rfl) u (by kernel_rfl) (by kernel_rfl) u (.inl fun _ _=>trivial) ⟨⟨k.hasK kr,k.hasObj m7⟩,(fun _=>k.hasObj (.head _)),by decide⟩ wn u (fun _ _=>(rv_fieldAddr ff36_1 u)) (wg_val (i:=1) (listed':=L_ 10 1) (HasObj ak [V3 H I J,V3 O R S,V3 aT aU aV]) u (by kernel_rfl) (pk_then pk_body) (by kernel_rfl) u (by kernel_rfl) (by kernel_rfl) u (.inr ⟨u,fun _ _ h=>h⟩) ⟨⟨k.hasK kr,k.hasObj m7⟩,(fun _=>k.hasObj (.head _)),by decide⟩ wn u (fun _ h=>rh_loadm1 tf34 u u h) (wg_val (i:=2) (listed':=L_ 10 2) (fun _=>True) u (by kernel_rfl) (pk_then pk_body) (by kernel_rfl) u (by kernel_rfl) (by kernel_rfl) u (.inl fun _ _=>trivial) ⟨⟨k.hasK kr,k.hasObj m7⟩,(fun _=>k.hasObj (.head _)),by decide⟩ wn u (fun _ _=>(rv_fieldAddr ff36_1 u)) ?_))
 refine wg_val (i:=3) (listed':=L_ 10 3) (HasObj ac [V3 m o q,V3 s x y,V3 Y aa ab]) u (by kernel_rfl) (pk_then pk_body) (by kernel_rfl) u (by kernel_rfl) (by kernel_rfl) u (.inl fun _ h=>h.2) ⟨⟨k.hasK kr,k.hasObj m7⟩,(fun _=>k.hasObj (.head _)),by decide⟩ wn u (fun _ h=>rh_loadm1 tf34 u u h) (wg_val (i:=4) (listed':=L_ 10 4) (fun _=>True) u (by kernel_rfl) (pk_then pk_body) (by kernel_rfl) u (by kernel_rfl) (by kernel_rfl) u (.inl fun _ _=>trivial) ⟨⟨k.hasK kr,k.hasObj m7⟩,(fun _=>k.hasObj (.head _)),by decide⟩ wn u (fun _ _=>(rv_move u)) (wg_val (i:=5) (listed':=L_ 10 5) (fun _=>True) u (by kernel_rfl) (pk_then pk_body) (by kernel_rfl) u (by kernel_rfl) (by kernel_rfl) u (.inl fun _ _=>trivial) ⟨⟨k.hasK kr,k.hasObj m7⟩,(fun _=>k.hasObj (.head _)),by decide⟩ wn u (fun _ _=>(rv_add u u)) ?_))
 obtain⟨eI,du,dv⟩:=ob dq
 refine wg_sl_l (t:=tGLive) (j:=6) (listed':=L_ 10 6) u (by kernel_rfl) (pk_then pk_body) (by kernel_rfl) u (by kernel_rfl) (by kernel_rfl) u ⟨⟨k.hasK kr,k.hasObj m7⟩,(fun _=>k.hasObj (.head _)),by decide⟩ wn u underlying34 tf73 u u (SliceAt.mono ((((aK.trans W.le).trans X).trans ag).trans aC) bR) du fun eJ eK eL dw=>(wg_one (i:=7) (by kernel_rfl) u ?_)
 obtain⟨eM,dx,dy⟩:=ob dv
 refine lp underlying34 tf73 dt dw dx k.f1 fun ao ap aq eN dz aD dA ah=>(wl_nil (qe_held (listed':=L_ 10 7) u ⟨⟨ah.hasK aD,ah.hasObj m7⟩,(fun _=>ah.hasObj (.tail _ (.head _))),by decide⟩ (wg_val (i:=8) (listed':=L_ 10 8) (fun _=>True) u (by kernel_rfl) (pk_then pk_body) (by kernel_rfl) u (by kernel_rfl) (by kernel_rfl) u (.inl fun _ _=>trivial) ⟨⟨ah.hasK aD,ah.hasObj m7⟩,(fun _=>ah.hasObj (.tail _ (.head _))),by decide⟩ wn u (fun _ _=>(rv_fieldAddr ff36_1 u)) (wg_one (i:=9) (by kernel_rfl) u (ls [V3 H I J,V3 O R S,V3 ao ap aq] (V3 ao ap aq) tf34 ah.f1 fun eO aX=>(wl_nil (qe_held (listed':=L_ 10 9) u ⟨⟨aX.hasK aD,aX.hasObj m7⟩,(fun h=>nomatch h),by decide⟩ (wg_done (by kernel_rfl) (qr (lv (rv_loadmS (ds:=[V3 H I J,V3 O R S,V3 ao ap aq]) tf36 u m0 aX u u) (lw [V3 H I J,V3 O R S,V3 ao ap aq] tf36 aX.f6 fun eP bW=>?_)))))))))))
 refine lv (r_t u) (nq (wc_ret ?_))
 cases oi dy
 exact qe_ret (vs:=[_,_]) results48 ⟨⟨_,_,u,run_loadVar_at tf36 (cs:=[V3 H I J,V3 O R S,V3 ao ap aq]) (fun j c e=>by rw [Nat.zero_add,bW.mem_obj m0];exact e) (.inl ⟨u,u,u⟩)⟩,u,trivial⟩ ⟨H,I,J,O,R,S,ao,ap,aq,dz,u,bW.s,(SliceAt.mono ((((W.le.trans X).trans ag).trans aC).trans aD) de),(SliceAt.mono ((((W.le.trans X).trans ag).trans aC).trans aD) df),dA⟩

theorem ok_spec_l8Put {q0:List Int}{q1:Int}{r:(List Int)}(hS:SH w K [] w K [])(f:SliceAt tInt K A a b q0)(T:rng64 q1)(hm:M.spec_l8Put F q0 q1=some r):
  Calls prog 180 #[V3 A a b,V6 q1] w fun e w'=>∃a_1 n_2 c_3 K',e= .returned (V3 a_1 n_2 c_3)∧SH w K [] w' K' []∧SliceAt tInt K' a_1 n_2 c_3 r:=by
 rw [M.spec_l8Put] at hm
 refine ci func180 u ntmps180 (sr (lv (r_n u) (nr (lv (r_0 u) (ns ?_)))))
 obtain⟨m,U,V⟩:=ob hm
 refine wc_cutg (IW w K [] K [(0,V3 A a b),(1,V6 q1),(5,V6 m)] [] (rng64 m)) ?_ ?_
 ·refine wc_block ?_
  obtain⟨bg,W,X⟩:=ob U
  refine qw (fun (k:Int)=>IW w K [] K [(0,V3 A a b),(1,V6 q1),(5,V6 k)] [] (rng64 k)) W ⟨K,u,hS,kr,d_0⟩ ?_
  rintro k _ bh bi Y aa ⟨o,rfl,q,l,ab⟩
  refine wc_seq (wc_seq ?_)
  obtain⟨ac,ad,ae⟩:=ob Y
  refine wc_cutg (IV w K [] o [(0,V3 A a b),(1,V6 q1),(5,V6 k),(18,.bool ac)] []) ?_ ?_
  ·refine wc_region (mv u (mv u (lv (rv_len underlying71 u (f.mono l)) (lv (rv_lss u u) (mv u (bt ad (fun c s=>?_) (fun c s=>?_)))))))
   ·refine lg c (rv_move u) (lg c (rv_move u) ?_)
    obtain⟨af,ag,ah⟩:=ob s
    refine wl_indexAddr (t:=tInt) (wg u u c) u underlying71 tf3 u u (f.mono l) ag fun ai aj bj ak al=>?_
    obtain⟨rfl,bk⟩:=ak
    have am:AtK _ ai aj [V6 af]:=al
    refine lg c (rv_load1 tf3 u q (am 0 _ u)) (lg c (rv_move u) (lg c (rv_lss u u) (lv (rv_pick_t u c u) (wl_nil ?_))))
    cases oi ah
    exact qd ⟨o,u,q,kr⟩
   iterate 6 refine lu c ?_
   refine lv (p_f u c u) (wl_nil ?_)
   cases oi s
   exact qd ⟨o,u,q,kr⟩
  rintro _ bl ⟨H,rfl,I,J⟩
  refine qe_seq (wcc ae u (fun an x=>?_) (fun an x=>?_))
  ·refine wc_skip (qe_seq (wc_block (wc_region (mv u (lv (rv_add u u) (av u (nb ?_)))))))
   cases oi x
   exact qd ⟨_,u,H,u,I,(l.trans J),(w64_rng _)⟩
  refine wc_exit (qe_then_exit (qe_then_exit ?_))
  cases oi x
  cases aa _ u
  refine qe_block_eq ?_
  cases oi X
  exact qd ⟨H,u,I,(l.trans J),ab⟩
 rintro _ bm ⟨y,rfl,B,i,bn⟩
 refine qs (wc_seq ?_)
 obtain⟨ao,ap,aq⟩:=ob V
 refine wc_cutg (IV w K [] y [(0,V3 A a b),(1,V6 q1),(5,V6 m),(32,.bool ao)] []) ?_ ?_
 ·refine wc_region (mv u (mv u (lv (rv_len underlying71 u (f.mono i)) (lv (rv_lss u u) (mv u (bt ap (fun d C=>?_) (fun d C=>?_)))))))
  ·refine lg d (rv_move u) (lg d (rv_move u) ?_)
   obtain⟨ar,au,aw⟩:=ob C
   refine wl_indexAddr (t:=tInt) (wg u u d) u underlying71 tf3 u u (f.mono i) au fun ax ay bo az aA=>?_
   obtain⟨rfl,bp⟩:=az
   have aB:AtK _ ax ay [V6 ar]:=aA
   refine lg d (rv_load1 tf3 u B (aB 0 _ u)) (lg d (rv_move u) (lg d (rv_eql u u) (lv (rv_pick_t u d u) (wl_nil ?_))))
   cases oi aw
   exact qd ⟨y,u,B,kr⟩
  iterate 6 refine lu d ?_
  refine lv (p_f u d u) (wl_nil ?_)
  cases oi C
  exact qd ⟨y,u,B,kr⟩
 rintro _ bq ⟨aC,rfl,O,D⟩
 refine qe_seq (wcc aq u (fun aD G=>?_) (fun aD G=>?_))
 ·refine sr (mv u (av u (nq (rr ?_))))
  cases oi G
  exact ey results180 ⟨A,a,b,aC,u,O,(f.mono (i.trans D))⟩
 refine wc_skip (qr (b0 tInt underlying71 tf3 O fun br bs bu R aE aF=>(mv u (mv u ?_))))
 obtain⟨bv,aG,aH⟩:=ob G
 refine wl_sl_h (t:=tInt) wn u underlying71 tf3 u u (f.mono ((i.trans D).trans R)) aG fun bx bz bA aI=>?_
 obtain⟨bB,aJ,aK⟩:=ob aH
 refine lp underlying71 tf3 aE aI aJ aF fun bC bD bE bF bG aL aM aN=>(av u (nr (mv u (mv u (lb tInt (V6 q1) [V6 q1] q1 underlying71 tf3 ⟨u,T⟩ aN fun bH bI bJ S aO aP=>?_)))))
 obtain⟨bK,aQ,aR⟩:=ob aK
 refine lp underlying71 tf3 (aM.mono S) aO aQ aP.f1 fun bL bM bN bO bP aS aT aU=>(av u (nr (mv u (mv u (mv u ?_)))))
 obtain⟨bQ,aV,aW⟩:=ob aR
 refine wl_sl_l (t:=tInt) wn u underlying71 tf3 u u (SliceAt.mono (((((i.trans D).trans R).trans aL).trans S).trans aS) f) aV fun bR bS bT aX=>?_
 obtain⟨bU,aY,aZ⟩:=ob aW
 refine lp underlying71 tf3 aT aX aY aU fun ba bb bc bV bd bW be bf=>(av u (nq (wc_ret ?_)))
 cases oi aZ
 exact ey results180 ⟨ba,bb,bc,bd,u,bf.s,be⟩

theorem ok_spec_l18Gone {q0:GIndex}{q1:Int}{r:GIndex×Bool}(hS:SH w K [] w K [])(bp:SliceAt tStr K A a b q0.Conf.Stops)(bq:SliceAt tGSyn K B c d q0.Conf.Syns)(bd:SliceAt tGLive K C f i q0.Segs)(aO:rng64 q1)(hm:M.spec_l18Gone F q0 q1=some r):
  Calls prog 114 #[.agg #[V3 A a b,V3 B c d,V3 C f i],V6 q1] w fun e w'=>∃a_1 n_2 c_3 a_5 n_6 c_7 a_9 n_10 c_11 K',e= .returned (.tuple #[.agg #[V3 a_1 n_2 c_3,V3 a_5 n_6 c_7,V3 a_9 n_10 c_11],.bool r.2])∧SH w K [] w' K' [tail (V3 a_9 n_10 c_11) 73 3]∧SliceAt tStr K' a_1 n_2 c_3 r.1.Conf.Stops∧SliceAt tGSyn K' a_5 n_6 c_7 r.1.Conf.Syns∧SliceAt tGLive K' a_9 n_10 c_11 r.1.Segs:=by
 rw [M.spec_l18Gone] at hm
 refine ci func114 u ntmps114 (sr (bx u hS fun ac cG br=>?_))
 have bs:SH _ _ _ _ _ [obj ac [V3 A a b,V3 B c d,V3 C f i] 36]:=br
 refine al tf36 bs fun o cH bu=>?_
 have be:SH _ _ _ _ _ [obj o [V3 none 0 0,V3 none 0 0,V3 none 0 0] 36,_]:=bu
 refine lv (r_f u) (nr (fa ff36_0 u (lv (rv_loadmS (ds:=[V3 A a b,V3 B c d]) tf33 u m1 be u u) (lv (rv_build (cs:=#[V3 A a b,V3 B c d,V3 none 0 0]) sp36 tf36 u (by kernel_rfl)) (al tf36 be fun q cI bv=>?_)))))
 have bz:SH _ _ _ _ _ [obj q [V3 none 0 0,V3 none 0 0,V3 none 0 0] 36,_,_]:=bv
 refine lw [V3 A a b,V3 B c d,V3 none 0 0] tf36 bz fun cJ bA=>(nr (lv (r_f u) (nsr (lv (r_0 u) (nq ?_)))))
 obtain⟨aF,bB,bC⟩:=ob hm
 refine wc_cutg (fun E' w'=>∃ad ae af ag ah ai R S T aj,E'=[(4,pt o),(6,pt q),(7,.bool aF.1)]∧SH w K [] w' aj [obj o [V3 none 0 0,V3 none 0 0,V3 none 0 0] 36,obj q [V3 ad ae af,V3 ag ah ai,V3 R S T] 36,tail (V3 R S T) 73 3]∧KLe K aj∧SliceAt tStr aj ad ae af aF.2.Conf.Stops∧SliceAt tGSyn aj ag ah ai aF.2.Conf.Syns∧SliceAt tGLive aj R S T aF.2.Segs) ?_ ?_
 ·refine wc_block ?_
  obtain⟨cK,bD,bE⟩:=ob bB
  have bF:=bA.nil 73 3
  refine qw (fun (l:Bool×Int×GIndex) E' w'=>∃U V W X Y aa s x y ab,E'=[(1,V6 q1),(2,pt ac),(4,pt o),(6,pt q),(7,.bool l.1),(8,V6 l.2.1)]∧SH w K [] w' ab [obj ac [V3 A a b,V3 B c d,V3 C f i] 36,obj o [V3 none 0 0,V3 none 0 0,V3 none 0 0] 36,obj q [V3 U V W,V3 X Y aa,V3 s x y] 36,tail (V3 s x y) 73 3]∧KLe K ab∧rng64 l.2.1∧SliceAt tStr ab U V W l.2.2.Conf.Stops∧SliceAt tGSyn ab X Y aa l.2.2.Conf.Syns∧SliceAt tGLive ab s x y l.2.2.Segs) bD ⟨A,a,b,B,c,d,none,0,0,K,u,bF.f1.f2.f3,kr,d_0,bp,bq,(SliceAt.nil _ _)⟩ ?_
  rintro l _ cL cM bG bH ⟨U,V,W,X,Y,aa,s,x,y,ab,rfl,aC,aG,cN,bf,bg,bh⟩
  refine wc_seq (sr (mv u (fl ff36_1 u tf34 m0 aC u (lv (rv_len underlying34 u (bd.mono aG)) (lv (rv_lss u u) (nq (wcc bG u (fun bI aP=>?_) (fun bI aP=>?_))))))))
  ·refine wc_skip (qs (wc_block (sr (fl ff36_1 u tf34 m0 aC u (mv u ?_)))))
   obtain⟨cO,bJ,bK⟩:=ob aP
   refine li underlying34 tf73 (bd.mono aG) bJ fun bL bM cP bN bO=>?_
   obtain⟨D,G,H,I,J,O,ax,ay,az,rfl,aH,aI,aQ⟩:=bN
   have bP:AtK _ bL bM [V3 D G H,V3 I J O,V3 ax ay az]:=bO
   refine lv (rv_loadS tf73 u aC bP u) (al tf73 aC fun aD cQ bQ=>?_)
   have bR:SH _ _ _ _ _ [obj aD [V3 none 0 0,V3 none 0 0,V3 none 0 0] 73,_,_,_,_]:=bQ
   refine lw [V3 D G H,V3 I J O,V3 ax ay az] tf73 bR fun cR aR=>(ns (wc_seq ?_))
   obtain⟨bS,bT,bU⟩:=ob bK
   refine wc_cutg (IV w K [] ab [(1,V6 q1),(2,pt ac),(4,pt o),(6,pt q),(7,.bool l.1),(8,V6 l.2.1),(9,pt aD),(36,.bool bS)] [obj ac [V3 A a b,V3 B c d,V3 C f i] 36,obj o [V3 none 0 0,V3 none 0 0,V3 none 0 0] 36,obj q [V3 U V W,V3 X Y aa,V3 s x y] 36,tail (V3 s x y) 73 3,obj aD [V3 D G H,V3 I J O,V3 ax ay az] 73]) ?_ ?_
   ·refine wc_region (fa ff73_0 u (lv (rv_loadmS (ds:=[V3 D G H,V3 I J O]) tf46 u m0 aR u u) (mv u ?_)))
    obtain⟨cS,bV,bW⟩:=ob bT
    refine lk co120 (ok_spec_l12Doc F aR.enter0 aH aI aO bV) ?_
    rintro cT cU ⟨cV,cW,cX,cY,cZ,da,bX,rfl,aA,db,dc,dd⟩
    have aJ:=(aR.c0 aA).t5
    refine lv (rv_field fg77_0 tf3 u (.inl ⟨u,u⟩)) (lv (rv_neq u u) (mv u (bt bW (fun k aS=>?_) (fun k aS=>?_))))
    ·refine lg k (rv_loadmS (ds:=[V3 D G H,V3 I J O,V3 ax ay az]) tf73 u m0 aJ u u) (lg k (rv_move u) ?_)
     obtain⟨de,bY,bZ⟩:=ob aS
     refine wl_call (wg u u k) u (rt_call (vs:=[.agg #[V3 D G H,V3 I J O,V3 ax ay az],V6 q1]) co167 u) (ok_spec_l18Dead F aJ.enter0 (aH.mono aA.le) (aI.mono aA.le) (aQ.mono aA.le) aO bY) ?_
     rintro df dg ⟨ca,rfl,bi⟩
     refine⟨_,u,?_⟩
     have cb:=(aJ.c0 bi).t5
     refine lg k (rv_not u) (lv (rv_pick_t u k u) (wl_nil ?_))
     cases oi bZ
     exact qd ⟨ca,u,cb.f4.f4.f4.f4,(aA.le.trans bi.le)⟩
    refine lu k (lu k (lu k (lu k (lv (p_f u k u) (wl_nil ?_)))))
    cases oi aS
    exact qd ⟨bX,u,aJ.f4.f4.f4.f4,aA.le⟩
   rintro _ dh ⟨bj,rfl,bk,m⟩
   refine qe_seq ?_
   obtain⟨aE,cc,cd⟩:=ob bU
   refine wc_cutg (fun E' w'=>∃ak am an ao ap aq ar au aw aB,E'=[(1,V6 q1),(2,pt ac),(4,pt o),(6,pt q),(7,.bool aE.1),(8,V6 l.2.1),(9,pt aD)]∧SH w K [] w' aB [obj ac [V3 A a b,V3 B c d,V3 C f i] 36,obj o [V3 none 0 0,V3 none 0 0,V3 none 0 0] 36,obj q [V3 U V W,V3 X Y aa,V3 s x y] 36,tail (V3 s x y) 73 3,obj aD [V3 ak am an,V3 ao ap aq,V3 ar au aw] 73]∧KLe bj aB∧SliceAt tGDoc aB ak am an aE.2.Seg.Docs∧SliceAt tGEntry aB ao ap aq aE.2.Seg.Entries∧SliceAt tInt aB ar au aw aE.2.Dead) ?_ ?_
   ·refine wcc cc u (fun ce aT=>?_) (fun ce aT=>?_)
    ·refine sr (lv (r_t u) (nq (wc_region (b0 tInt underlying71 tf3 bk fun di dj dk aK cf bl=>(fl ff73_1 u tf71 m5 bl u ?_)))))
     obtain⟨dl,cg,ch⟩:=ob aT
     refine lp underlying71 tf3 cf (aQ.mono (m.trans aK)) cg bl fun dm dn dp dq dr aU cj bm=>(mv u ?_)
     obtain⟨dt,ck,cl⟩:=ob ch
     refine lk co180 (ok_spec_l8Put F bm.enter0 cj aO ck) ?_
     rintro du dv ⟨aV,aW,aX,cm,rfl,aL,cn⟩
     have cp:=(bm.c0 aL).t6
     refine fa ff73_1 u (ls [V3 D G H,V3 I J O,V3 aV aW aX] (V3 aV aW aX) tf71 cp.f5 fun dw cq=>(wl_nil ?_))
     cases oi cl
     exact qd ⟨D,G,H,I,J,O,aV,aW,aX,cm,u,cq.f5.f5.f5.f5.s,((aK.trans aU).trans aL.le),(SliceAt.mono (((m.trans aK).trans aU).trans aL.le) aH),(SliceAt.mono (((m.trans aK).trans aU).trans aL.le) aI),cn⟩
    refine wc_skip ?_
    cases oi aT
    exact qd ⟨D,G,H,I,J,O,ax,ay,az,bj,u,bk,kr,(aH.mono m),(aI.mono m),(aQ.mono m)⟩
   rintro _ dx ⟨ak,am,an,ao,ap,aq,ar,au,aw,aB,rfl,aY,aM,cr,ct,cu⟩
   refine qe_seq (wc_region (fl ff36_1 u tf34 m2 aY u (lv (rv_loadmS (ds:=[V3 ak am an,V3 ao ap aq,V3 ar au aw]) tf73 u m4 aY u u) (lb tGLive (.agg #[V3 ak am an,V3 ao ap aq,V3 ar au aw]) [V3 ak am an,V3 ao ap aq,V3 ar au aw] aE.2 underlying34 tf73 ⟨ak,am,an,ao,ap,aq,ar,au,aw,u,cr,ct,cu⟩ aY fun dy dz dA aN cv cw=>?_))))
   obtain⟨dB,cx,cy⟩:=ob cd
   refine lp underlying34 tf73 (bh.mono ((m.trans aM).trans aN)) cv cx cw.f4 fun aZ ba bb dC cz bc cA cB=>(fa ff36_1 u (ls [V3 U V W,V3 X Y aa,V3 aZ ba bb] (V3 aZ ba bb) tf34 cB.f4 fun dD cC=>(nb (qe_seq (wc_region (mv u (lv (rv_add u u) (av u (wl_nil ?_)))))))))
   cases oi cy
   exact qd ⟨_,u,U,V,W,X,Y,aa,aZ,ba,bb,cz,u,cC.f1.f1.f4.f4.s,((((aG.trans m).trans aM).trans aN).trans bc),(w64_rng _),(SliceAt.mono (((m.trans aM).trans aN).trans bc) bf),(SliceAt.mono (((m.trans aM).trans aN).trans bc) bg),cA⟩
  refine wc_exit (qe_then_exit (qe_then_exit ?_))
  cases oi aP
  cases bH _ u
  refine qe_block_eq ?_
  cases oi bE
  exact qd ⟨U,V,W,X,Y,aa,s,x,y,ab,u,aC.s,aG,bf,bg,bh⟩
 rintro _ dE ⟨ad,ae,af,ag,ah,ai,R,S,T,aj,rfl,bn,dF,cD,cE,cF⟩
 refine qr (lv (rv_loadmS (ds:=[V3 ad ae af,V3 ag ah ai,V3 R S T]) tf36 u m1 bn u u) (mv u (lw [V3 ad ae af,V3 ag ah ai,V3 R S T] tf36 bn fun dG bo=>(av u (nq (wc_ret ?_))))))
 cases oi bC
 exact qe_ret (vs:=[_,_]) results114 ⟨⟨_,_,u,run_loadVar_at tf36 (cs:=[V3 ad ae af,V3 ag ah ai,V3 R S T]) (fun j c e=>by rw [Nat.zero_add,bo.mem_obj m0];exact e) (.inl ⟨u,u,u⟩)⟩,u,trivial⟩ ⟨ad,ae,af,ag,ah,ai,R,S,T,aj,u,bo.s,cD,cE,cF⟩

theorem ok_spec_l18Full {q0:GIndex}{r:GIndex}(hS:SH w K [] w K [])(aN:SliceAt tStr K A a b q0.Conf.Stops)(aO:SliceAt tGSyn K B c d q0.Conf.Syns)(ap:SliceAt tGLive K C f i q0.Segs)(hm:M.spec_l18Full F q0=some r):
  Calls prog 115 #[.agg #[V3 A a b,V3 B c d,V3 C f i]] w fun e w'=>∃a_1 n_2 c_3 a_5 n_6 c_7 a_9 n_10 c_11 K',e= .returned (.agg #[V3 a_1 n_2 c_3,V3 a_5 n_6 c_7,V3 a_9 n_10 c_11])∧SH w K [] w' K' [tail (V3 a_9 n_10 c_11) 73 3]∧SliceAt tStr K' a_1 n_2 c_3 r.Conf.Stops∧SliceAt tGSyn K' a_5 n_6 c_7 r.Conf.Syns∧SliceAt tGLive K' a_9 n_10 c_11 r.Segs:=by
 rw [M.spec_l18Full] at hm
 refine ci func115 u ntmps115 (sr (bx u hS fun aq ck aP=>?_))
 have aQ:SH _ _ _ _ _ [obj aq [V3 A a b,V3 B c d,V3 C f i] 36]:=aP
 refine al tf36 aQ fun ad cl aR=>?_
 have aI:SH _ _ _ _ _ [obj ad [V3 none 0 0,V3 none 0 0,V3 none 0 0] 36,_]:=aR
 refine nr (fa ff36_0 u (lv (rv_loadmS (ds:=[V3 A a b,V3 B c d]) tf33 u m1 aI u u) (lv (rv_build (cs:=#[V3 A a b,V3 B c d,V3 none 0 0]) sp36 tf36 u (by kernel_rfl)) (al tf36 aI fun U cm aS=>?_))))
 have aT:SH _ _ _ _ _ [obj U [V3 none 0 0,V3 none 0 0,V3 none 0 0] 36,_,_]:=aS
 refine lw [V3 A a b,V3 B c d,V3 none 0 0] tf36 aT fun cn aU=>(nsr (lv (r_0 u) (nq ?_)))
 obtain⟨ax,aV,aW⟩:=ob hm
 refine wc_cutg (fun E' w'=>∃V W X Y aa ab y D G H,E'=[(2,pt ad),(3,pt U)]∧SH w K [] w' H [obj ad [V3 none 0 0,V3 none 0 0,V3 none 0 0] 36,obj U [V3 V W X,V3 Y aa ab,V3 y D G] 36,tail (V3 y D G) 73 3]∧KLe K H∧SliceAt tStr H V W X ax.Conf.Stops∧SliceAt tGSyn H Y aa ab ax.Conf.Syns∧SliceAt tGLive H y D G ax.Segs) ?_ ?_
 ·refine wc_block ?_
  obtain⟨cp,aX,aY⟩:=ob aV
  have aZ:=aU.nil 73 3
  refine qw (fun (ac:Int×GIndex) E' w'=>∃l m o q s x I J O R,E'=[(1,pt aq),(2,pt ad),(3,pt U),(4,V6 ac.1)]∧SH w K [] w' R [obj aq [V3 A a b,V3 B c d,V3 C f i] 36,obj ad [V3 none 0 0,V3 none 0 0,V3 none 0 0] 36,obj U [V3 l m o,V3 q s x,V3 I J O] 36,tail (V3 I J O) 73 3]∧KLe K R∧rng64 ac.1∧SliceAt tStr R l m o ac.2.Conf.Stops∧SliceAt tGSyn R q s x ac.2.Conf.Syns∧SliceAt tGLive R I J O ac.2.Segs) aX ⟨A,a,b,B,c,d,none,0,0,K,u,aZ.f1.f2.f3,kr,d_0,aN,aO,(SliceAt.nil _ _)⟩ ?_
  rintro ac _ cq cr ba bb ⟨l,m,o,q,s,x,I,J,O,R,rfl,ay,S,ct,az,aA,aB⟩
  refine wc_seq (sr (mv u (fl ff36_1 u tf34 m0 ay u (lv (rv_len underlying34 u (ap.mono S)) (lv (rv_lss u u) (nq (wcc ba u (fun bc aC=>?_) (fun bc aC=>?_))))))))
  ·refine wc_skip (qs (wc_block (wc_seq (wc_quiet mixed (by kernel_rfl) ay (kv (rv_fieldAddr ff36_1 u) (kh (rq_loadm1 tf34 u m0 u) (km u ?_)))))))
   obtain⟨cu,bd,be⟩:=ob aC
   refine ki underlying34 tf73 (ap.mono S) bd fun bf bg cv bh bi=>?_
   obtain⟨bj,bk,bl,bm,bn,bo,bp,bq,br,rfl,cw,cx,bs⟩:=bh
   have bu:AtK _ bf bg [V3 bj bk bl,V3 bm bn bo,V3 bp bq br]:=bi
   refine kv (rv_fieldAddr ff73_1 u) (kh (rq_load1 tf71 u (bu 2 _ u)) (kv (rv_len underlying71 u bs) (kv (rv_fieldAddr ff36_1 u) (kh (rq_loadm1 tf34 u m0 u) (km u ?_)))))
   obtain⟨cy,bv,bz⟩:=ob be
   refine ki underlying34 tf73 (ap.mono S) bv fun bA bB cz bC bD=>?_
   obtain⟨bE,bF,bG,bH,bI,bJ,bK,bL,bM,rfl,bN,cA,cB⟩:=bC
   have bO:AtK _ bA bB [V3 bE bF bG,V3 bH bI bJ,V3 bK bL bM]:=bD
   refine kv (rv_fieldAddr ff73_0 u) (kv (rv_fieldAddr ff46_0 u) (kh (rq_load1 tf43 u (bO 0 _ u)) (kv (rv_len underlying43 u bN) (kv (rv_lss u u) (wq_nil ?_)))))
   rintro cC ⟨aJ,aK,k⟩
   refine qe_seq (wcc bz u (fun bP aD=>?_) (fun bP aD=>?_))
   ·have ar:=aK.drew
    refine wh1 (fun w'=>Holds aJ w'∧HasObj aq [V3 A a b,V3 B c d,V3 C f i] w') (fun w'=>HasObj U [V3 l m o,V3 q s x,V3 I J O] w') 10 [(1,8),(1,9),(1,10),(8,9),(8,10),(9,10)] mixed ⟨ar.hasK kr,ar.hasObj m0⟩ (fun _=>ar.hasObj (.tail _ (.tail _ (.head _)))) (gt (rv_fieldAddr ff36_1 u) (gf (fun _ h=>rh_loadm1 tf34 u u h) (gt (rv_fieldAddr ff36_1 u) (gh (fun _ h=>rh_loadm1 tf34 u u h.2) (gt (rv_move u) ?_)))))
    obtain⟨bQ,bR,bS⟩:=ob aD
    refine gi underlying34 tf73 (ap.mono (S.trans k)) bR fun bT bU cD bV bW=>?_
    obtain⟨ae,af,ag,ah,ai,aj,ak,am,an,rfl,bX,bY,bZ⟩:=bV
    have ca:AtK _ bT bU [V3 ae af ag,V3 ah ai aj,V3 ak am an]:=bW
    refine gh (fun _ h=>rh_loadS (cs:=[V3 ae af ag,V3 ah ai aj,V3 ak am an]) tf73 u ca u h.1) (gn (lb tGLive (.agg #[V3 ae af ag,V3 ah ai aj,V3 ak am an]) [V3 ae af ag,V3 ah ai aj,V3 ak am an] bQ underlying34 tf73 ⟨ae,af,ag,ah,ai,aj,ak,am,an,u,bX,bY,bZ⟩ ar fun cE cF cG T cb au=>(wl_nil (qh ⟨au.hasK T,au.hasObj m1⟩ (fun _=>au.hasObj (.tail _ (.tail _ (.tail _ (.head _))))) (gn ?_)))))
    obtain⟨cH,cc,cd⟩:=ob bS
    refine lp underlying34 tf73 (aB.mono (k.trans T)) cb cc au.f4 fun aE aF aG cI ce ao cf aw=>(wl_nil (qh ⟨aw.hasK (T.trans ao),aw.hasObj m2⟩ (fun _=>aw.hasObj (.tail _ (.tail _ (.tail _ (.tail _ (.head _)))))) (gt (rv_fieldAddr ff36_1 u) (gn (ls [V3 l m o,V3 q s x,V3 aE aF aG] (V3 aE aF aG) tf34 aw.f4 fun cJ aH=>(wl_nil (qh ⟨aH.hasK (T.trans ao),aH.hasObj m3⟩ (fun h=>nomatch h) (gd' (qe_block (qe_seq (wc_region ?_)))))))))))
    refine mv u (lv (rv_add u u) (av u (wl_nil ?_)))
    cases oi cd
    exact qd ⟨_,u,l,m,o,q,s,x,aE,aF,aG,ce,u,aH.f1.f1.f4.f4.s,(((S.trans k).trans T).trans ao),(w64_rng _),(az.mono ((k.trans T).trans ao)),(aA.mono ((k.trans T).trans ao)),cf⟩
   refine wc_skip (qe_block (qe_seq (wc_region (mv u (lv (rv_add u u) (av u (wl_nil ?_)))))))
   cases oi aD
   exact qd ⟨_,u,l,m,o,q,s,x,I,J,O,aJ,u,aK,(S.trans k),(w64_rng _),(az.mono k),(aA.mono k),(aB.mono k)⟩
  refine wc_exit (qe_then_exit (qe_then_exit ?_))
  cases oi aC
  cases bb _ u
  refine qe_block_eq ?_
  cases oi aY
  exact qd ⟨l,m,o,q,s,x,I,J,O,R,u,ay.s,S,az,aA,aB⟩
 rintro _ cK ⟨V,W,X,Y,aa,ab,y,D,G,H,rfl,aL,cL,cg,ch,cj⟩
 refine qr (lv (rv_loadmS (ds:=[V3 V W X,V3 Y aa ab,V3 y D G]) tf36 u m1 aL u u) (lw [V3 V W X,V3 Y aa ab,V3 y D G] tf36 aL fun cM aM=>(nq (wc_ret ?_))))
 cases oi aW
 exact ez results115 tf36 aM m0 ⟨V,W,X,Y,aa,ab,y,D,G,H,u,aM.s,cg,ch,cj⟩

theorem ok_spec_IndexDrop {q0:GIndex}{q1:Int}{r:GIndex×Bool}(hS:SH w K [] w K [])(R:SliceAt tStr K A a b q0.Conf.Stops)(S:SliceAt tGSyn K B c d q0.Conf.Syns)(T:SliceAt tGLive K C f i q0.Segs)(ai:rng64 q1)(hm:M.spec_IndexDrop F q0 q1=some r):
  Calls prog 52 #[.agg #[V3 A a b,V3 B c d,V3 C f i],V6 q1] w fun e w'=>∃a_1 n_2 c_3 a_5 n_6 c_7 a_9 n_10 c_11 K',e= .returned (.tuple #[.agg #[V3 a_1 n_2 c_3,V3 a_5 n_6 c_7,V3 a_9 n_10 c_11],.bool r.2])∧SH w K [] w' K' [tail (V3 a_9 n_10 c_11) 73 3]∧SliceAt tStr K' a_1 n_2 c_3 r.1.Conf.Stops∧SliceAt tGSyn K' a_5 n_6 c_7 r.1.Conf.Syns∧SliceAt tGLive K' a_9 n_10 c_11 r.1.Segs:=by
 rw [M.spec_IndexDrop] at hm
 refine ci func52 u ntmps52 (sr (bx u hS fun aj aW ak=>?_))
 have am:SH _ _ _ _ _ [obj aj [V3 A a b,V3 B c d,V3 C f i] 36]:=ak
 refine al tf36 am fun an aX ao=>?_
 have m:SH _ _ _ _ _ [obj an [V3 none 0 0,V3 none 0 0,V3 none 0 0] 36,_]:=ao
 refine lv (r_f u) (nsr (lv (rv_loadmS (ds:=[V3 A a b,V3 B c d,V3 C f i]) tf36 u m1 m u u) ?_))
 obtain⟨aY,ap,aq⟩:=ob hm
 refine lk co57 (ok_spec_l18Ok F m.enter0 R S T ap) ?_
 rintro aZ ba ⟨ar,rfl,k⟩
 have l:=(m.c0 k).t2
 refine lv (rv_not u) (nq (wcc aq u (fun au o=>?_) (fun au o=>?_)))
 ·refine sr (lv (rv_build (cs:=#[V3 none 0 0,V3 none 0 0,V3 none 0 0]) sp36 tf36 u (by kernel_rfl)) (lw [V3 none 0 0,V3 none 0 0,V3 none 0 0] tf36 l fun bb U=>(lv (r_f u) (nq (rr ?_)))))
  cases oi o
  have aw:=U.nil 73 3
  exact qe_ret (vs:=[_,_]) results52 ⟨⟨_,_,u,run_loadVar_at tf36 (cs:=[V3 none 0 0,V3 none 0 0,V3 none 0 0]) (fun j c e=>by rw [Nat.zero_add,U.mem_obj m0];exact e) (.inl ⟨u,u,u⟩)⟩,u,trivial⟩ ⟨none,0,0,none,0,0,none,0,0,ar,u,aw.s,(SliceAt.nil _ _),(SliceAt.nil _ _),(SliceAt.nil _ _)⟩
 refine wc_skip (qr (lv (rv_loadmS (ds:=[V3 A a b,V3 B c d,V3 C f i]) tf36 u m1 l u u) ?_))
 obtain⟨bc,ax,ay⟩:=ob o
 refine lk co110 (ok_spec_l18Copy F l.enter0 (R.mono k.le) (S.mono k.le) (T.mono k.le) ax) ?_
 rintro bd be ⟨bf,bg,bh,bi,bj,bk,bl,bm,bn,cs54,bo,rfl,az,aA,aB,hrow55,hm56⟩
 have aC:=(l.c0 az).t3
 obtain⟨bp,V,aD,W⟩:=SH.freezeI aC hrow55 hm56
 refine mv u ?_
 obtain⟨bq,aE,aF⟩:=ob ay
 refine lk co114 (ok_spec_l18Gone F W.enter0 (aA.mono V) (aB.mono V) aD ai aE) ?_
 rintro br bs ⟨X,Y,aa,ab,ac,ad,ae,af,ag,bu,rfl,aG,aH,aI,aJ⟩
 have aK:=(W.c0 aG).t4
 refine mv u (lv (rv_extract u u) (lv (rv_extract u u) (al tf36 aK fun aL bv aM=>?_)))
 have aN:SH _ _ _ _ _ [obj aL [V3 none 0 0,V3 none 0 0,V3 none 0 0] 36,_,_,_,_]:=aM
 refine lw [V3 X Y aa,V3 ab ac ad,V3 ae af ag] tf36 aN fun bz q=>(av u (nr (lv (rv_loadmS (ds:=[V3 X Y aa,V3 ab ac ad,V3 ae af ag]) tf36 u m0 q u u) ?_)))
 obtain⟨bA,aO,aP⟩:=ob aF
 refine lk co115 (ok_spec_l18Full F q.enter0 aH aI aJ aO) ?_
 rintro bB bC ⟨s,x,y,D,G,H,I,J,O,aQ,rfl,aR,aS,aT,aU⟩
 have aV:=(q.c0 aR).t6
 refine mv u (lw [V3 s x y,V3 D G H,V3 I J O] tf36 aV.f4 fun bD ah=>(av u (nq (wc_ret ?_))))
 cases oi aP
 exact qe_ret (vs:=[_,_]) results52 ⟨⟨_,_,u,run_loadVar_at tf36 (cs:=[V3 s x y,V3 D G H,V3 I J O]) (fun j c e=>by rw [Nat.zero_add,ah.mem_obj m0];exact e) (.inl ⟨u,u,u⟩)⟩,u,trivial⟩ ⟨s,x,y,D,G,H,I,J,O,aQ,u,ah.s,aS,aT,aU⟩

theorem ok_spec_IndexAdd {q0:GIndex}{q1:List GDoc}{r:GIndex×Bool}(hS:SH w K [] w K [])(aG:SliceAt tStr K A a b q0.Conf.Stops)(aH:SliceAt tGSyn K B c d q0.Conf.Syns)(aR:SliceAt tGLive K C f i q0.Segs)(aI:SliceAt tGDoc K D k l q1)(hm:M.spec_IndexAdd F q0 q1=some r):
  Calls prog 55 #[.agg #[V3 A a b,V3 B c d,V3 C f i],V3 D k l] w fun e w'=>∃a_1 n_2 c_3 a_5 n_6 c_7 a_9 n_10 c_11 K',e= .returned (.tuple #[.agg #[V3 a_1 n_2 c_3,V3 a_5 n_6 c_7,V3 a_9 n_10 c_11],.bool r.2])∧SH w K [] w' K' [tail (V3 a_9 n_10 c_11) 73 3]∧SliceAt tStr K' a_1 n_2 c_3 r.1.Conf.Stops∧SliceAt tGSyn K' a_5 n_6 c_7 r.1.Conf.Syns∧SliceAt tGLive K' a_9 n_10 c_11 r.1.Segs:=by
 rw [M.spec_IndexAdd] at hm
 refine ci func55 u ntmps55 (sr (bx u hS fun y fh db=>?_))
 have dc:SH _ _ _ _ _ [obj y [V3 A a b,V3 B c d,V3 C f i] 36]:=db
 refine al tf36 dc fun H fi dd=>?_
 have bl:SH _ _ _ _ _ [obj H [V3 none 0 0,V3 none 0 0,V3 none 0 0] 36,_]:=dd
 refine lv (r_f u) (nsr (lv (rv_loadmS (ds:=[V3 A a b,V3 B c d,V3 C f i]) tf36 u m1 bl u u) ?_))
 obtain⟨fj,de,df⟩:=ob hm
 refine lk co57 (ok_spec_l18Ok F bl.enter0 aG aH aR de) ?_
 rintro fk fm ⟨cb,rfl,m⟩
 have bm:=(bl.c0 m).t2
 refine lv (rv_not u) (nq (wcc df u (fun dg bn=>?_) (fun dg bn=>?_)))
 ·refine sr (lv (rv_build (cs:=#[V3 none 0 0,V3 none 0 0,V3 none 0 0]) sp36 tf36 u (by kernel_rfl)) (lw [V3 none 0 0,V3 none 0 0,V3 none 0 0] tf36 bm fun fn cc=>(lv (r_f u) (nq (rr ?_)))))
  cases oi bn
  have dh:=cc.nil 73 3
  exact qe_ret (vs:=[_,_]) results55 ⟨⟨_,_,u,run_loadVar_at tf36 (cs:=[V3 none 0 0,V3 none 0 0,V3 none 0 0]) (fun j c e=>by rw [Nat.zero_add,cc.mem_obj m0];exact e) (.inl ⟨u,u,u⟩)⟩,u,trivial⟩ ⟨none,0,0,none,0,0,none,0,0,cb,u,dh.s,(SliceAt.nil _ _),(SliceAt.nil _ _),(SliceAt.nil _ _)⟩
 refine wc_skip (qs (wc_seq ?_))
 obtain⟨di,dj,dk⟩:=ob bn
 refine wc_cutg (IV w K [] cb [(1,V3 D k l),(2,pt y),(4,pt H),(21,.bool di)] [obj y [V3 A a b,V3 B c d,V3 C f i] 36,obj H [V3 none 0 0,V3 none 0 0,V3 none 0 0] 36]) ?_ ?_
 ·refine wc_region (mv u ?_)
  obtain⟨fo,dl,dm⟩:=ob dj
  refine lk co67 (ok_spec_l6Docs F bm.enter0 (aI.mono m.le) dl) ?_
  rintro fp fq ⟨cd,rfl,aS⟩
  have ce:=(bm.c0 aS).t2
  refine lv (rv_not u) (mv u (bt dm (fun I bo=>?_) (fun I bo=>?_)))
  ·refine lu I (lu I (lu I (lv (p_t u I u) (wl_nil ?_))))
   cases oi bo
   exact qd ⟨cd,u,ce.f1,aS.le⟩
  refine lg I (rv_move u) (lg I (rv_len underlying43 u (aI.mono (m.le.trans aS.le))) (lg I (rv_eql u u) (lv (rv_pick_f u I u) (wl_nil ?_))))
  cases oi bo
  exact qd ⟨cd,u,ce.f1,aS.le⟩
 rintro _ fr ⟨fs,rfl,ax,o⟩
 refine qe_seq (wcc dk u (fun dn bp=>?_) (fun dn bp=>?_))
 ·refine sr (lv (rv_loadmS (ds:=[V3 A a b,V3 B c d,V3 C f i]) tf36 u m0 ax u u) ?_)
  obtain⟨ft,dp,dq⟩:=ob bp
  refine lk co110 (ok_spec_l18Copy F ax.enter0 (aG.mono (m.le.trans o)) (aH.mono (m.le.trans o)) (aR.mono (m.le.trans o)) dp) ?_
  rintro fu fv ⟨bq,br,bs,bu,bv,bz,bA,bB,bC,cs78,fw,rfl,dr,dt,du,hrow79,hm80⟩
  have dv:=(ax.c0 dr).t3
  obtain⟨dw,cf,dx,dy⟩:=SH.freezeI dv hrow79 hm80
  refine lw [V3 bq br bs,V3 bu bv bz,V3 bA bB bC] tf36 dy.f2 fun fx cg=>(lv (r_f u) (nq (rr ?_)))
  cases oi dq
  exact qe_ret (vs:=[_,_]) results55 ⟨⟨_,_,u,run_loadVar_at tf36 (cs:=[V3 bq br bs,V3 bu bv bz,V3 bA bB bC]) (fun j c e=>by rw [Nat.zero_add,cg.mem_obj m0];exact e) (.inl ⟨u,u,u⟩)⟩,u,trivial⟩ ⟨bq,br,bs,bu,bv,bz,bA,bB,bC,dw,u,cg.s,(dt.mono cf),(du.mono cf),dx⟩
 refine wc_skip (qr (lv (rv_loadmS (ds:=[V3 A a b,V3 B c d,V3 C f i]) tf36 u m0 ax u u) ?_))
 obtain⟨fy,dz,dA⟩:=ob bp
 refine lk co110 (ok_spec_l18Copy F ax.enter0 (aG.mono (m.le.trans o)) (aH.mono (m.le.trans o)) (aR.mono (m.le.trans o)) dz) ?_
 rintro fz fA ⟨ch,cj,ck,cl,cm,cn,cp,cq,cr,cs108,fB,rfl,J,dB,dC,hrow109,hm110⟩
 have dD:=(ax.c0 J).t3
 obtain⟨bD,G,dE,dF⟩:=SH.freezeI dD hrow109 hm110
 refine al tf36 dF fun O fC dG=>?_
 have dH:SH _ _ _ _ _ [obj O [V3 none 0 0,V3 none 0 0,V3 none 0 0] 36,_,_,_]:=dG
 refine lw [V3 ch cj ck,V3 cl cm cn,V3 cp cq cr] tf36 dH fun fD dI=>(nsr (lv (r_0 u) (nq ?_)))
 obtain⟨bE,dJ,dK⟩:=ob dA
 refine wc_cutg (fun E' w'=>∃aT aU aV aW aX aY aJ aK aL ay,E'=[(1,V3 D k l),(2,pt y),(4,pt H),(6,pt O)]∧SH w K [] w' ay [obj y [V3 A a b,V3 B c d,V3 C f i] 36,obj H [V3 none 0 0,V3 none 0 0,V3 none 0 0] 36,obj O [V3 aT aU aV,V3 aW aX aY,V3 aJ aK aL] 36,tail (V3 aJ aK aL) 73 3]∧KLe bD ay∧SliceAt tStr ay aT aU aV bE.Conf.Stops∧SliceAt tGSyn ay aW aX aY bE.Conf.Syns∧SliceAt tGLive ay aJ aK aL bE.Segs) ?_ ?_
 ·refine wc_block ?_
  obtain⟨fE,dL,dM⟩:=ob dJ
  refine qw (fun (ad:Int×GIndex) E' w'=>∃ae af ag ah ai aj R S T U,E'=[(1,V3 D k l),(2,pt y),(4,pt H),(6,pt O),(7,V6 ad.1)]∧SH w K [] w' U [obj y [V3 A a b,V3 B c d,V3 C f i] 36,obj H [V3 none 0 0,V3 none 0 0,V3 none 0 0] 36,obj O [V3 ae af ag,V3 ah ai aj,V3 R S T] 36,tail (V3 R S T) 73 3]∧KLe bD U∧rng64 ad.1∧SliceAt tStr U ae af ag ad.2.Conf.Stops∧SliceAt tGSyn U ah ai aj ad.2.Conf.Syns∧SliceAt tGLive U R S T ad.2.Segs) dL ⟨ch,cj,ck,cl,cm,cn,cp,cq,cr,bD,u,dI.f1.f1.f3.f3,kr,d_0,(dB.mono G),(dC.mono G),dE⟩ ?_
  rintro ad _ fF fG dN dO ⟨ae,af,ag,ah,ai,aj,R,S,T,U,rfl,ct,aZ,fH,bF,bG,bH⟩
  refine wc_seq (sr (mv u (mv u (lv (rv_len underlying43 u (SliceAt.mono ((((m.le.trans o).trans J.le).trans G).trans aZ) aI)) (lv (rv_lss u u) (nq (wcc dN u (fun dP bI=>?_) (fun dP bI=>?_))))))))
  ·refine wc_skip (qs (wc_block (wc_seq ?_)))
   obtain⟨bJ,dQ,dR⟩:=ob bI
   refine wc_cutg (fun E' w'=>∃bK az aA aB aC aD aE ak am an ao,E'=[(1,V3 D k l),(2,pt y),(4,pt H),(6,pt O),(7,V6 ad.1),(8,pt bK)]∧SH w K [] w' ao [obj bK [V3 az aA aB,V3 aC aD aE,V3 ak am an] 36,tail (V3 ak am an) 73 3,obj y [V3 A a b,V3 B c d,V3 C f i] 36,obj H [V3 none 0 0,V3 none 0 0,V3 none 0 0] 36,obj O [V3 ae af ag,V3 ah ai aj,V3 R S T] 36,tail (V3 R S T) 73 3]∧KLe U ao∧SliceAt tStr ao az aA aB bJ.Conf.Stops∧SliceAt tGSyn ao aC aD aE bJ.Conf.Syns∧SliceAt tGLive ao ak am an bJ.Segs) ?_ ?_
   ·obtain⟨dS,dT,dU⟩:=ob dQ
    obtain⟨fI,cu,cv⟩:=ob dU
    have aM:=ct.drew
    refine j_0 (fun w'=>Holds U w'∧HasObj O [V3 ae af ag,V3 ah ai aj,V3 R S T] w') 13 [] mixed ⟨aM.hasK kr,aM.hasObj m2⟩ (jh 0 u (fun _ h=>rh_loadmS (ds:=[V3 ae af ag,V3 ah ai aj,V3 R S T]) tf36 u u u h.2) (jv 1 u (rv_move u) (jv 2 u (rv_move u) (ji 3 u underlying43 tf77 (SliceAt.mono ((((m.le.trans o).trans J.le).trans G).trans aZ) aI) dT fun dV dW fJ dX dY=>?_))))
    obtain⟨dZ,ea,eb,ec,ed,ee,rfl,cw,fK,fL⟩:=dX
    have ef:AtK _ dV dW [V6 dS.Id,V3 dZ ea eb,V3 ec ed ee]:=dY
    refine jv 4 u (rv_fieldAddr ff77_0 u) (jh 5 u (fun _ h=>rh_load1 tf3 u (ef 0 _ u) h.1) (j2 6 10 u u ?_ ?_))
    ·refine lk co114 (ok_spec_l18Gone F aM.enter0 bF bG bH cw cu) ?_
     rintro fM fN ⟨cx,cy,cz,cA,cB,cC,cD,cE,cF,eg,rfl,aN,eh,ei,ej⟩
     have bL:=(aM.c0 aN).t5
     refine j_o ⟨bL.hasK aN.le,bL.hasObj m3⟩ (jv 7 u (rv_move u) (jv 8 u (rv_extract u u) (jv 9 u (rv_extract u u) (j1 10 u (al tf36 bL fun cG fO ek=>?_)))))
     have bM:SH _ _ _ _ _ [obj cG [V3 none 0 0,V3 none 0 0,V3 none 0 0] 36,_,_,_,_,_]:=ek
     refine j_o ⟨bM.hasK aN.le,bM.hasObj m4⟩ (j1 11 u (lw [V3 cx cy cz,V3 cA cB cC,V3 cD cE cF] tf36 bM fun fP bN=>(j_o ⟨bN.hasK aN.le,bN.hasObj m4⟩ (jv 12 u (rv_assign u) (jd ?_)))))
     cases oi cv
     exact qd ⟨cG,cx,cy,cz,cA,cB,cC,cD,cE,cF,eg,u,bN,aN.le,eh,ei,ej⟩
    refine al tf36 aM fun cH fQ el=>?_
    have ba:SH _ _ _ _ _ [obj cH [V3 none 0 0,V3 none 0 0,V3 none 0 0] 36,_,_,_,_]:=el
    refine j_o ⟨ba.hasK kr,ba.hasObj m3⟩ (j1 6 u (lk co114 (ok_spec_l18Gone F ba.enter0 bF bG bH cw cu) ?_))
    rintro fR fS ⟨cI,cJ,cK,cL,cM,cN,cO,cP,cQ,em,rfl,bb,en,eo,ep⟩
    have bO:=(ba.c0 bb).t6
    refine j_o ⟨bO.hasK bb.le,bO.hasObj m4⟩ (jv 7 u (rv_move u) (jv 8 u (rv_extract u u) (jv 9 u (rv_extract u u) (j1 11 u (lw [V3 cI cJ cK,V3 cL cM cN,V3 cO cP cQ] tf36 bO.f1 fun fT bP=>(j_o ⟨bP.hasK bb.le,bP.hasObj m4⟩ (jv 12 u (rv_assign u) (jd ?_))))))))
    cases oi cv
    exact qd ⟨cH,cI,cJ,cK,cL,cM,cN,cO,cP,cQ,em,u,bP,bb.le,en,eo,ep⟩
   rintro _ fU ⟨bK,az,aA,aB,aC,aD,aE,ak,am,an,ao,rfl,cR,eq,es,et,eu⟩
   refine qe_seq (wc_region (lv (rv_loadmS (ds:=[V3 az aA aB,V3 aC aD aE,V3 ak am an]) tf36 u m0 cR u u) (lw [V3 az aA aB,V3 aC aD aE,V3 ak am an] tf36 cR.f4 fun fV ev=>(nb (qe_seq (wc_region (mv u (lv (rv_add u u) (av u ?_)))))))))
   refine wl_nil ?_
   cases oi dR
   exact qd ⟨_,u,az,aA,aB,aC,aD,aE,ak,am,an,ao,u,ev.f2.f1.f4.f4.s,(aZ.trans eq),(w64_rng _),es,et,eu⟩
  refine wc_exit (qe_then_exit (qe_then_exit ?_))
  cases oi bI
  cases dO _ u
  refine qe_block_eq ?_
  cases oi dM
  exact qd ⟨ae,af,ag,ah,ai,aj,R,S,T,U,u,ct,aZ,bF,bG,bH⟩
 rintro _ fW ⟨aT,aU,aV,aW,aX,aY,aJ,aK,aL,ay,rfl,bQ,aF,ew,ex,eA⟩
 refine qr (lv (rv_loadmS (ds:=[V3 aT aU aV,V3 aW aX aY,V3 aJ aK aL]) tf36 u m2 bQ u u) ?_)
 obtain⟨eB,eC,eD⟩:=ob dK
 refine lk co115 (ok_spec_l18Full F bQ.enter0 ew ex eA eC) ?_
 rintro fX fY ⟨W,X,Y,aa,ab,ac,cS,cT,cU,eE,rfl,ap,cV,cW,eF⟩
 have eG:=(bQ.c0 ap).t5
 refine lw [V3 W X Y,V3 aa ab ac,V3 cS cT cU] tf36 eG.f3 fun fZ eH=>(ns ?_)
 have aO:=eH.drew
 refine wh1 (fun w'=>Holds eE w'∧HasObj y [V3 A a b,V3 B c d,V3 C f i] w') (fun w'=>HasObj O [V3 W X Y,V3 aa ab ac,V3 cS cT cU] w') 10 [(1,8),(1,9),(1,10),(8,9),(8,10),(9,10)] mixed ⟨aO.hasK kr,aO.hasObj m2⟩ (fun _=>aO.hasObj (.head _)) (gt (rv_fieldAddr ff36_1 u) (gf (fun _ h=>rh_loadm1 tf34 u u h) (gt (rv_fieldAddr ff36_0 u) (gh (fun _ h=>rh_loadmS (ds:=[V3 A a b,V3 B c d]) tf33 u u u h.2) (gt (rv_move u) (gn ?_))))))
 obtain⟨eI,eJ,eK⟩:=ob eD
 refine lk co68 (ok_spec_l7Of F aO.enter0 (SliceAt.mono (((((m.le.trans o).trans J.le).trans G).trans aF).trans ap.le) aG) (SliceAt.mono (((((m.le.trans o).trans J.le).trans G).trans aF).trans ap.le) aH) (SliceAt.mono (((((m.le.trans o).trans J.le).trans G).trans aF).trans ap.le) aI) eJ) ?_
 rintro ga gb ⟨bc,bd,be,bf,bg,bh,cs347,gc,rfl,q,eL,hrow348,hm349⟩
 have eM:=(aO.c0 q).t7
 obtain⟨gd,s,eN,bi⟩:=SH.freezeI eM.f1 hrow348 hm349
 refine wl_nil (qh ⟨bi.hasK (q.le.trans s),bi.hasObj m4⟩ (fun _=>bi.hasObj (.tail _ (.tail _ (.head _)))) (gt (rv_build (cs:=#[V3 bc bd be,V3 bf bg bh,V3 none 0 0]) sp73 tf73 u (by kernel_rfl)) (gn (lb tGLive (.agg #[V3 bc bd be,V3 bf bg bh,V3 none 0 0]) [V3 bc bd be,V3 bf bg bh,V3 none 0 0] (GLive.mk eI ([]:List Int)) underlying34 tf73 ⟨bc,bd,be,bf,bg,bh,none,0,0,u,(eL.mono s),eN,(SliceAt.nil _ _)⟩ bi fun ge gg gj x eO bj=>(wl_nil (qh ⟨bj.hasK ((q.le.trans s).trans x),bj.hasObj m5⟩ (fun _=>bj.hasObj (.tail _ (.tail _ (.tail _ (.head _))))) (gn ?_)))))))
 obtain⟨eP,eQ,eR⟩:=ob eK
 refine lp underlying34 tf73 (eF.mono ((q.le.trans s).trans x)) eO eQ bj.f4 fun aq ar au gk gl V cX bk=>(wl_nil (qh ⟨bk.hasK (((q.le.trans s).trans x).trans V),bk.hasObj m5⟩ (fun _=>bk.hasObj (.tail _ (.tail _ (.tail _ (.tail _ (.head _)))))) (gt (rv_fieldAddr ff36_1 u) (gn (ls [V3 W X Y,V3 aa ab ac,V3 aq ar au] (V3 aq ar au) tf34 bk.f4 fun gm aP=>(wl_nil (qh ⟨aP.hasK (((q.le.trans s).trans x).trans V),aP.hasObj m5⟩ (fun h=>nomatch h) (gd' (qs (sr (lv (rv_loadmS (ds:=[V3 W X Y,V3 aa ab ac,V3 aq ar au]) tf36 u m0 aP u u) ?_)))))))))))
 obtain⟨go,eS,eT⟩:=ob eR
 refine lk co57 ((ok_spec_l18Ok F (q0:=(GIndex.mk eB.Conf eP))) aP.enter0 (SliceAt.mono (((q.le.trans s).trans x).trans V) cV) (SliceAt.mono (((q.le.trans s).trans x).trans V) cW) cX eS) ?_
 rintro gp gq ⟨eU,rfl,aw⟩
 have aQ:=(aP.c0 aw).t8
 refine lv (rv_not u) (nq (wcc eT u (fun eV bR=>?_) (fun eV bR=>?_)))
 ·refine sr (lv (rv_loadmS (ds:=[V3 A a b,V3 B c d,V3 C f i]) tf36 u m5 aQ u u) ?_)
  obtain⟨gr,eW,eX⟩:=ob bR
  refine lk co110 (ok_spec_l18Copy F aQ.enter0 (SliceAt.mono ((((((((((m.le.trans o).trans J.le).trans G).trans aF).trans ap.le).trans q.le).trans s).trans x).trans V).trans aw.le) aG) (SliceAt.mono ((((((((((m.le.trans o).trans J.le).trans G).trans aF).trans ap.le).trans q.le).trans s).trans x).trans V).trans aw.le) aH) (SliceAt.mono ((((((((((m.le.trans o).trans J.le).trans G).trans aF).trans ap.le).trans q.le).trans s).trans x).trans V).trans aw.le) aR) eW) ?_
  rintro gv gw ⟨bS,bT,bU,bV,bW,bX,bY,bZ,ca,cs405,gx,rfl,eY,eZ,fb,hrow406,hm407⟩
  have fc:=(aQ.c0 eY).t9
  obtain⟨fd,cY,fe,fg⟩:=SH.freezeI fc hrow406 hm407
  refine lw [V3 bS bT bU,V3 bV bW bX,V3 bY bZ ca] tf36 fg.f7 fun gy cZ=>(lv (r_f u) (nq (rr ?_)))
  cases oi eX
  exact qe_ret (vs:=[_,_]) results55 ⟨⟨_,_,u,run_loadVar_at tf36 (cs:=[V3 bS bT bU,V3 bV bW bX,V3 bY bZ ca]) (fun j c e=>by rw [Nat.zero_add,cZ.mem_obj m0];exact e) (.inl ⟨u,u,u⟩)⟩,u,trivial⟩ ⟨bS,bT,bU,bV,bW,bX,bY,bZ,ca,fd,u,cZ.s,(eZ.mono cY),(fb.mono cY),fe⟩
 refine wc_skip (qr (lv (rv_loadmS (ds:=[V3 W X Y,V3 aa ab ac,V3 aq ar au]) tf36 u m0 aQ u u) (lw [V3 W X Y,V3 aa ab ac,V3 aq ar au] tf36 aQ.f6 fun gz da=>(lv (r_t u) (nq (wc_ret ?_))))))
 cases oi bR
 exact qe_ret (vs:=[_,_]) results55 ⟨⟨_,_,u,run_loadVar_at tf36 (cs:=[V3 W X Y,V3 aa ab ac,V3 aq ar au]) (fun j c e=>by rw [Nat.zero_add,da.mem_obj m0];exact e) (.inl ⟨u,u,u⟩)⟩,u,trivial⟩ ⟨W,X,Y,aa,ab,ac,aq,ar,au,eU,u,da.s,(SliceAt.mono ((((q.le.trans s).trans x).trans V).trans aw.le) cV),(SliceAt.mono ((((q.le.trans s).trans x).trans V).trans aw.le) cW),(cX.mono aw.le)⟩

theorem ok_spec_l30Rd_of {q0:GL30Rd}{q1:List Str}{r:Str×GL30Rd}(hS:SH w K Z w K [obj g1 [V3 A a b,V6 q0.p_] 208])(l:SliceAt tU8 K A a b q0.b_)(m:rng64 q0.p_)(f:SliceAt tStr K B c d q1)(hm:M.spec_l30Rd_of F q0 q1=some r):
  Calls prog 257 #[.pointer (some ⟨g1,0,none⟩),V3 B c d] w fun e w'=>∃a_2 n_3 c_4 K',e= .returned (sv r.1)∧SH w K Z w' K' [obj g1 [V3 a_2 n_3 c_4,V6 r.2.p_] 208]∧r.1.length≤maxLen∧SliceAt tU8 K' a_2 n_3 c_4 r.2.b_∧rng64 r.2.p_:=by
 rw [M.spec_l30Rd_of] at hm
 refine ci func257 u ntmps257 (sr (lv (r_s u) (nr (mv u (mv u (mv u (lv (rv_len underlying22 u f) ?_)))))))
 obtain⟨W,o,q⟩:=ob hm
 refine lk co106 (ok_spec_l30Rd_pick F hS.e1 l m f.rn o) ?_
 rintro X Y ⟨s,x,y,C,rfl,i,aa,D,G⟩
 have k:=(hS.c1 i).t1
 obtain⟨H,I,J⟩:=ob q
 refine li underlying22 tf9 (f.mono i.le) I fun O R ab S T=>?_
 obtain⟨rfl,U⟩:=S
 have V:AtK _ O R [sv H]:=T
 refine lv (rv_load1 tf9 u k (V 0 _ u)) (av u (nq (wc_ret ?_)))
 cases oi J
 exact ey results257 ⟨s,x,y,C,u,k,U,D,G⟩

theorem ok_spec_l30Raw {q0:GL30Rd}{r:Str×GL30Rd}(hS:SH w K Z w K [obj g1 [V3 A a b,V6 q0.p_] 208])(d:SliceAt tU8 K A a b q0.b_)(f:rng64 q0.p_)(hm:M.spec_l30Raw F q0=some r):
  Calls prog 267 #[.pointer (some ⟨g1,0,none⟩)] w fun e w'=>∃a_2 n_3 c_4 K',e= .returned (sv r.1)∧SH w K Z w' K' [obj g1 [V3 a_2 n_3 c_4,V6 r.2.p_] 208]∧r.1.length≤maxLen∧SliceAt tU8 K' a_2 n_3 c_4 r.2.b_∧rng64 r.2.p_:=by
 rw [M.spec_l30Raw] at hm
 refine ci func267 u ntmps267 (sr (lv (r_s u) (nr (mv u (bw [[99,97,116],[67,97,116,115],[100,111,103],[100,111,103,115],[114,117,110],[82,85,78,78,73,78,71],[116,104,101],[114,101,100],[98,105,103],[110,101,119,32,121,111,114,107],[78,101,119,32,32,89,111,114,107],[110,121],[102,111,120],[112,97,115,115,101,100],[120,49],[97,118,101,114,121,118,101,114,121,108,111,110,103,119,111,114,100]] underlying22 tf9 hS fun I J O i k l=>?_)))))
 obtain⟨R,m,o⟩:=ob hm
 have c:=l.f1
 refine lk co257 (ok_spec_l30Rd_of F c.e1 (d.mono i) f k m) ?_
 rintro S T ⟨q,s,x,y,rfl,B,C,D,G⟩
 have H:=(c.c1 B).t2
 refine av u (nq (wc_ret ?_))
 cases oi o
 exact ey results267 ⟨q,s,x,y,u,H.s,C,D,G⟩

theorem ok_spec_l30Text {q0:GL30Rd}{r:Str×GL30Rd}(hS:SH w K Z w K [obj g1 [V3 A a b,V6 q0.p_] 208])(S:SliceAt tU8 K A a b q0.b_)(T:rng64 q0.p_)(hm:M.spec_l30Text F q0=some r):
  Calls prog 256 #[.pointer (some ⟨g1,0,none⟩)] w fun e w'=>∃a_2 n_3 c_4 K',e= .returned (sv r.1)∧SH w K Z w' K' [obj g1 [V3 a_2 n_3 c_4,V6 r.2.p_] 208]∧r.1.length≤maxLen∧SliceAt tU8 K' a_2 n_3 c_4 r.2.b_∧rng64 r.2.p_:=by
 rw [M.spec_l30Text] at hm
 refine ci func256 u ntmps256 (sr (lv (r_s u) (nr (lv (r_s u) (nsr (mv u ?_))))))
 obtain⟨r7,U,V⟩:=ob hm
 refine lk co106 (ok_spec_l30Rd_pick F hS.e1 S T (by decide :rng64 9) U) ?_
 rintro aO aP ⟨W,X,Y,x,rfl,aa,ab,ac,ad⟩
 have ae:=(hS.c1 aa).t1
 refine av u (nq ?_)
 obtain⟨d,af,ag⟩:=ob V
 refine wc_cutg (fun E' w'=>∃k l m f,E'=[(0,pt g1),(3,sv d.1)]∧SH w K Z w' f [obj g1 [V3 k l m,V6 d.2.p_] 208]∧KLe x f∧d.1.length≤maxLen∧SliceAt tU8 f k l m d.2.b_∧rng64 d.2.p_) ?_ ?_
 ·refine wc_block ?_
  obtain⟨aQ,ah,ai⟩:=ob af
  refine qw (fun (c:Str×Int×GL30Rd) E' w'=>∃o q s i,E'=[(0,pt g1),(3,sv c.1),(4,V6 c.2.1)]∧SH w K Z w' i [obj g1 [V3 o q s,V6 c.2.2.p_] 208]∧KLe x i∧c.1.length≤maxLen∧rng64 c.2.1∧SliceAt tU8 i o q s c.2.2.b_∧rng64 c.2.2.p_) ah ⟨W,X,Y,x,u,ae,kr,(by decide :([]:Str).length≤maxLen),ab,ac,ad⟩ ?_
  rintro c _ aR aS aj ak ⟨o,q,s,i,rfl,y,C,al,aT,D,G⟩
  refine wc_seq (sr (mv u (lv (rv_gtr u u) (nq (wcc aj u (fun am B=>?_) (fun am B=>?_))))))
  ·refine wc_skip (qs (wc_block (wc_region (mv u (mv u ?_)))))
   obtain⟨aU,an,ao⟩:=ob B
   refine lk co267 (ok_spec_l30Raw F y.e1 D G an) ?_
   rintro aV aW ⟨aX,aY,aZ,ba,rfl,H,bb,ap,aq⟩
   have ar:=(y.c1 H).t1
   obtain⟨bc,au,aw⟩:=ob ao
   refine lv (rv_sadd u u au) (mv u (bw [[32],[32],[44,32],[45],[46,32]] underlying22 tf9 ar fun bd be bf I ax ay=>?_))
   obtain⟨bg,az,aA⟩:=ob aw
   have J:=ay.f1
   refine lk co257 (ok_spec_l30Rd_of F J.e1 (ap.mono I) aq ax az) ?_
   rintro bh bi ⟨aB,aC,aD,aE,rfl,O,bj,aF,aG⟩
   have aH:=(J.c1 O).t2
   obtain⟨bk,R,aI⟩:=ob aA
   refine lv (rv_sadd u u R) (av u (nb (qe_seq (wc_region (mv u (lv (rv_sub u u) (av u (wl_nil ?_))))))))
   cases oi aI
   exact qd ⟨_,u,aB,aC,aD,aE,u,aH.s,(((C.trans H.le).trans I).trans O.le),(len_cat R),(w64_rng _),aF,aG⟩
  refine wc_exit (qe_then_exit (qe_then_exit ?_))
  cases oi B
  cases ak _ u
  refine qe_block_eq ?_
  cases oi ai
  exact qd ⟨o,q,s,i,u,y,C,al,D,G⟩
 rintro _ bl ⟨k,l,m,f,rfl,aJ,bm,aK,aL,aM⟩
 refine qr (mv u (av u (nq (wc_ret ?_))))
 cases oi ag
 exact ey results256 ⟨k,l,m,f,u,aJ,aK,aL,aM⟩
end Go.Proofs.YtpjefkdclnmlfaaGreat
