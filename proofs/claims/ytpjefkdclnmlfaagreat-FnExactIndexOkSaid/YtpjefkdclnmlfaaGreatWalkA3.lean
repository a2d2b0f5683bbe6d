/-
 Walks of the functions. Printed by gen.py.
-/
import Derived.Test.YtpjefkdclnmlfaaGreatWalkA1
import Derived.Test.YtpjefkdclnmlfaaGreatWalkA2
set_option linter.unusedVariables false
set_option linter.unusedSectionVars false
set_option maxRecDepth 100000
namespace Go.Proofs.YtpjefkdclnmlfaaGreat
set_option maxHeartbeats 4000000
open Go Go.Fk Go.RowKit Tryz
variable (F:Nat){w:World}{K:KMap}{Z:List Nat}{g1 g2 g3:Nat}{A B C D G H I J O R S T:Option Addr}{a b c d f i k l m n o p q s v x y aa ab ac ad ae af ag:Nat}
variable [dr:Dr]

theorem ok_spec_l18Put {q0:List GDoc}{q1:GDoc}{r:(List GDoc)}(hS:SH w K [] w K [])(m:SliceAt tGDoc K A a b q0)(ac:rng64 q1.Id)(ad:SliceAt tGField K B c d q1.Fields)(ae:SliceAt tGAttr K C f i q1.Nums)(hm:M.spec_l18Put F q0 q1=some r):
  Calls prog 168 #[V3 A a b,.agg #[V6 q1.Id,V3 B c d,V3 C f i]] w fun e w'=>∃a_1 n_2 c_3 K',e= .returned (V3 a_1 n_2 c_3)∧SH w K [] w' K' [tail (V3 a_1 n_2 c_3) 77 3]∧SliceAt tGDoc K' a_1 n_2 c_3 r:=by
 rw [M.spec_l18Put] at hm
 refine ci func168 u ntmps168 (sr (bx u hS fun l bC af=>?_))
 have ag:SH _ _ _ _ _ [obj l [V6 q1.Id,V3 B c d,V3 C f i] 77]:=af
 refine lv (r_n u) (nr (lv (r_0 u) (ns ?_)))
 obtain⟨W,ah,ai⟩:=ob hm
 refine wc_cutg (IW w K [] K [(0,V3 A a b),(3,pt l),(5,V6 W)] [obj l [V6 q1.Id,V3 B c d,V3 C f i] 77] (rng64 W)) ?_ ?_
 ·refine wc_block ?_
  obtain⟨bD,aj,ak⟩:=ob ah
  refine qw (fun (o:Int)=>IW w K [] K [(0,V3 A a b),(3,pt l),(5,V6 o)] [obj l [V6 q1.Id,V3 B c d,V3 C f i] 77] (rng64 o)) aj ⟨K,u,ag,kr,d_0⟩ ?_
  rintro o _ bE bF al am ⟨an,rfl,ao,q,ap⟩
  refine wc_seq (wc_seq ?_)
  obtain⟨aq,ar,au⟩:=ob al
  refine wc_cutg (IV w K [] an [(0,V3 A a b),(3,pt l),(5,V6 o),(20,.bool aq)] [obj l [V6 q1.Id,V3 B c d,V3 C f i] 77]) ?_ ?_
  ·refine wc_quiet mixed (by kernel_rfl) ao (km u (km u (kv (rv_len underlying43 u (m.mono q)) (kv (rv_lss u u) (km u (bt ar (fun k y=>?_) (fun k y=>?_)))))))
   ·refine kg k (rv_move u) (kg k (rv_move u) ?_)
    obtain⟨aw,ax,ay⟩:=ob y
    refine wq_indexAddr (t:=tGDoc) (wg u u k) u underlying43 tf77 u u (m.mono q) ax fun az aA bG aB aC=>?_
    obtain⟨aD,aE,aF,aG,aH,aI,rfl,bH,bI,bJ⟩:=aB
    have aJ:AtK _ az aA [V6 aw.Id,V3 aD aE aF,V3 aG aH aI]:=aC
    refine kg k (rv_fieldAddr ff77_0 u) (kgh k (rq_load1 tf3 u (aJ 0 _ u)) (kg k (rv_fieldAddr ff77_0 u) (kgh k (rq_loadm1 tf3 u m0 u) (kg k (rv_lss u u) (kv (rv_pick_t u k u) (wq_nil ?_))))))
    rintro bK ⟨aK,aL,aM⟩
    cases oi ay
    exact qd ⟨aK,u,aL,aM⟩
   iterate 8 refine kn k ?_
   refine kv (p_f u k u) (wq_nil ?_)
   rintro bL ⟨aN,aO,aP⟩
   cases oi y
   exact qd ⟨aN,u,aO,aP⟩
  rintro _ bM ⟨X,rfl,Y,aa⟩
  refine qe_seq (wcc au u (fun aQ D=>?_) (fun aQ D=>?_))
  ·refine wc_skip (qe_seq (wc_block (wc_region (mv u (lv (rv_add u u) (av u (nb ?_)))))))
   cases oi D
   exact qd ⟨_,u,X,u,Y,(q.trans aa),(w64_rng _)⟩
  refine wc_exit (qe_then_exit (qe_then_exit ?_))
  cases oi D
  cases am _ u
  refine qe_block_eq ?_
  cases oi ak
  exact qd ⟨X,u,Y,(q.trans aa),ap⟩
 rintro _ bN ⟨bO,rfl,aR,s,bP⟩
 refine qr (b0 tGDoc underlying43 tf77 aR fun bQ bR bS x aS aT=>(mv u (mv u ?_)))
 obtain⟨bT,aU,aV⟩:=ob ai
 refine wl_sl_h (t:=tGDoc) wn u underlying43 tf77 u u (m.mono (s.trans x)) aU fun bU bV bW aW=>?_
 obtain⟨bX,aX,aY⟩:=ob aV
 refine lp underlying43 tf77 aS aW aX aT fun bY bZ ca cb cc G aZ H=>(av u (nr (mv u (lv (rv_loadmS (ds:=[V6 q1.Id,V3 B c d,V3 C f i]) tf77 u m1 H u u) ?_))))
 obtain⟨I,ba,bb⟩:=ob aY
 refine lk co143 (ok_spec_l7CopyDoc F H.enter0 ac (ad.mono ((s.trans x).trans G)) (ae.mono ((s.trans x).trans G)) ba) ?_
 rintro cd ce ⟨J,O,R,S,T,U,cf,rfl,V,bc,bd,be⟩
 have bf:=(H.c0 V).t4
 refine lb tGDoc (.agg #[V6 I.Id,V3 J O R,V3 S T U]) [V6 I.Id,V3 J O R,V3 S T U] I underlying43 tf77 ⟨J,O,R,S,T,U,u,bc,bd,be⟩ bf fun cg ch cj ab bg bh=>?_
 obtain⟨ck,bi,bj⟩:=ob bb
 refine lp underlying43 tf77 (aZ.mono (V.le.trans ab)) bg bi bh.f3 fun cl cm cn cp cq bk bl bm=>(av u (nr (mv u (mv u (mv u ?_)))))
 obtain⟨cr,bn,bo⟩:=ob bj
 refine wl_sl_l (t:=tGDoc) wn u underlying43 tf77 u u (SliceAt.mono (((((s.trans x).trans G).trans V.le).trans ab).trans bk) m) bn fun cs ct cu bp=>?_
 obtain⟨cv,bq,br⟩:=ob bo
 refine lp underlying43 tf77 bl bp bq bm fun bs bu bv cw bz cx bA bB=>(av u (nq (wc_ret ?_)))
 cases oi br
 exact ey results168 ⟨bs,bu,bv,bz,u,bB.s,bA⟩

theorem ok_spec_l18Docs {q0:GIndex}{r:(List GDoc)}(hS:SH w K [] w K [])(cG:SliceAt tStr K A a b q0.Conf.Stops)(cH:SliceAt tGSyn K B c d q0.Conf.Syns)(aa:SliceAt tGLive K C f i q0.Segs)(hm:M.spec_l18Docs F q0=some r):
  Calls prog 99 #[.agg #[V3 A a b,V3 B c d,V3 C f i]] w fun e w'=>∃a_1 n_2 c_3 K',e= .returned (V3 a_1 n_2 c_3)∧SH w K [] w' K' [tail (V3 a_1 n_2 c_3) 77 3]∧SliceAt tGDoc K' a_1 n_2 c_3 r:=by
 rw [M.spec_l18Docs] at hm
 refine ci func99 u ntmps99 (sr (bx u hS fun l cI az=>?_))
 have aA:SH _ _ _ _ _ [obj l [V3 A a b,V3 B c d,V3 C f i] 36]:=az
 refine lv (r_n u) (nr (b0 tGDoc underlying43 tf77 aA fun aB cJ ae ab aC aD=>(av u (nsr (lv (r_0 u) (nq ?_))))))
 obtain⟨aE,aF,aG⟩:=ob hm
 refine wc_cutg (fun E' w'=>∃O R S T,E'=[(3,V3 O R S)]∧SH w K [] w' T [tail (V3 O R S) 77 3]∧KLe ae T∧SliceAt tGDoc T O R S aE) ?_ ?_
 ·refine wc_block ?_
  obtain⟨cK,aH,aI⟩:=ob aF
  refine qw (fun (o:(List GDoc)×Int) E' w'=>∃q s x k,E'=[(1,pt l),(3,V3 q s x),(4,V6 o.2)]∧SH w K [] w' k [obj l [V3 A a b,V3 B c d,V3 C f i] 36,tail (V3 q s x) 77 3]∧KLe ae k∧SliceAt tGDoc k q s x o.1∧rng64 o.2) aH ⟨aB,0,0,ae,u,aD.f1,kr,aC,d_0⟩ ?_
  rintro o _ cL cM aJ aK ⟨q,s,x,k,rfl,af,y,aw,cN⟩
  refine wc_seq (sr (mv u (fl ff36_1 u tf34 m0 af u (lv (rv_len underlying34 u (aa.mono (ab.trans y))) (lv (rv_lss u u) (nq (wcc aJ u (fun aL ag=>?_) (fun aL ag=>?_))))))))
  ·refine wc_skip (qs (wc_block (sr (lv (r_0 u) (nq ?_)))))
   obtain⟨aM,aN,aO⟩:=ob ag
   refine wc_cutg (fun E' w'=>∃U V W X,E'=[(1,pt l),(3,V3 U V W),(4,V6 o.2)]∧SH w K [] w' X [obj l [V3 A a b,V3 B c d,V3 C f i] 36,tail (V3 U V W) 77 3]∧KLe k X∧SliceAt tGDoc X U V W aM) ?_ ?_
   ·refine wc_block ?_
    obtain⟨cO,aP,aQ⟩:=ob aN
    refine qw (fun (ac:(List GDoc)×Int) E' w'=>∃D G H Y,E'=[(1,pt l),(3,V3 D G H),(4,V6 o.2),(5,V6 ac.2)]∧SH w K [] w' Y [obj l [V3 A a b,V3 B c d,V3 C f i] 36,tail (V3 D G H) 77 3]∧KLe k Y∧SliceAt tGDoc Y D G H ac.1∧rng64 ac.2) aP ⟨q,s,x,k,u,af,kr,aw,d_0⟩ ?_
    rintro ac _ cP cQ aR aS ⟨D,G,H,Y,rfl,m,I,ah,cR⟩
    refine wc_seq (sr (mv u (fl ff36_1 u tf34 m0 m u (mv u ?_))))
    obtain⟨cS,aT,aU⟩:=ob aR
    refine li underlying34 tf73 (aa.mono ((ab.trans y).trans I)) aT fun aV aW cT aX aY=>?_
    obtain⟨aZ,ba,bb,bc,bd,be,bf,bg,bh,rfl,bi,cU,cV⟩:=aX
    have bj:AtK _ aV aW [V3 aZ ba bb,V3 bc bd be,V3 bf bg bh]:=aY
    refine fa ff73_0 u (fa ff46_0 u (lv (rv_load1 tf43 u m (bj 0 _ u)) (lv (rv_len underlying43 u bi) (lv (rv_lss u u) (nq (wcc aU u (fun bk ai=>?_) (fun bk ai=>?_)))))))
    ·refine wc_skip (qs (wc_block (sr (fl ff36_1 u tf34 m0 m u (mv u ?_)))))
     obtain⟨cW,bl,bm⟩:=ob ai
     refine li underlying34 tf73 (aa.mono ((ab.trans y).trans I)) bl fun bn bo cX bp bq=>?_
     obtain⟨br,bs,bu,bv,bz,bA,bB,bC,bD,rfl,bE,cY,cZ⟩:=bp
     have bF:AtK _ bn bo [V3 br bs bu,V3 bv bz bA,V3 bB bC bD]:=bq
     refine fa ff73_0 u (fa ff46_0 u (lv (rv_load1 tf43 u m (bF 0 _ u)) (mv u ?_)))
     obtain⟨aj,bG,bH⟩:=ob bm
     refine li underlying43 tf77 bE bG fun bI bJ da bK bL=>?_
     obtain⟨ak,am,an,ao,ap,aq,rfl,ax,bM,bN⟩:=bK
     have bO:AtK _ bI bJ [V6 aj.Id,V3 ak am an,V3 ao ap aq]:=bL
     refine lv (rv_loadS tf77 u m bO u) (al tf77 m fun bP db bQ=>?_)
     have bR:SH _ _ _ _ _ [obj bP [V6 0,V3 none 0 0,V3 none 0 0] 77,_,_]:=bQ
     refine lw [V6 aj.Id,V3 ak am an,V3 ao ap aq] tf77 bR fun dc bS=>(ns (wc_quiet mixed (by kernel_rfl) bS (kv (rv_fieldAddr ff36_1 u) (kh (rq_loadm1 tf34 u m1 u) (km u ?_)))))
     obtain⟨dd,bT,bU⟩:=ob bH
     refine ki underlying34 tf73 (aa.mono ((ab.trans y).trans I)) bT fun bV bW de bX bY=>?_
     obtain⟨bZ,ca,cb,cc,cd,ce,cf,cg,ch,rfl,cj,ck,cl⟩:=bX
     have cm:AtK _ bV bW [V3 bZ ca cb,V3 cc cd ce,V3 cf cg ch]:=bY
     refine kh (rq_loadS tf73 u cm u) (kv (rv_fieldAddr ff77_0 u) (kh (rq_loadm1 tf3 u m0 u) ?_))
     obtain⟨df,cn,cp⟩:=ob bU
     refine kc co167 (fun _ _ cq ar=>(ok_spec_l18Dead F) cq.enter0 (cj.mono ar) (ck.mono ar) (cl.mono ar) ax cn) (kv (rv_not u) (wq_nil ?_))
     rintro dg ⟨cr,ad,J⟩
     refine qe_seq (wcc cp u (fun cs au=>?_) (fun cs au=>?_))
     ·refine wc_region (mv u (lv (rv_loadmS (ds:=[V6 aj.Id,V3 ak am an,V3 ao ap aq]) tf77 u m0 ad u u) ?_))
      obtain⟨dh,ct,cu⟩:=ob au
      refine lk co168 (ok_spec_l18Put F ad.enter0 (ah.mono J) ax (bM.mono J) (bN.mono J) ct) ?_
      rintro di dj ⟨cv,cw,cx,cy,rfl,ay,cz⟩
      have cA:=(ad.c0 ay).t4
      refine av u (nb (qe_seq (wc_region (mv u (lv (rv_add u u) (av u (wl_nil ?_)))))))
      cases oi cu
      exact qd ⟨_,u,cv,cw,cx,cy,u,cA.f2.s,((I.trans J).trans ay.le),cz,(w64_rng _)⟩
     refine wc_skip (qe_block (qe_seq (wc_region (mv u (lv (rv_add u u) (av u (wl_nil ?_)))))))
     cases oi au
     exact qd ⟨_,u,D,G,H,cr,u,ad.s,(I.trans J),(ah.mono J),(w64_rng _)⟩
    refine wc_exit (qe_then_exit (qe_then_exit ?_))
    cases oi ai
    cases aS _ u
    refine qe_block_eq ?_
    cases oi aQ
    exact qd ⟨D,G,H,Y,u,m,I,ah⟩
   rintro _ dk ⟨U,V,W,X,rfl,cB,cC,cD⟩
   refine qe_block (qe_seq (wc_region (mv u (lv (rv_add u u) (av u (wl_nil ?_))))))
   cases oi aO
   exact qd ⟨_,u,U,V,W,X,u,cB,(y.trans cC),cD,(w64_rng _)⟩
  refine wc_exit (qe_then_exit (qe_then_exit ?_))
  cases oi ag
  cases aK _ u
  refine qe_block_eq ?_
  cases oi aI
  exact qd ⟨q,s,x,k,u,af.s,y,aw⟩
 rintro _ dl ⟨O,R,S,T,rfl,cE,dm,cF⟩
 refine qr (mv u (av u (nq (wc_ret ?_))))
 cases oi aG
 exact ey results99 ⟨O,R,S,T,u,cE,cF⟩

theorem ok_spec_l3Up {q0:List Int}{r:Bool}(hS:SH w K [] w K [])(i:SliceAt tInt K A a b q0)(hm:M.spec_l3Up F q0=some r):
  Calls prog 119 #[V3 A a b] w (R_b w K r):=by
 rw [M.spec_l3Up] at hm
 refine ci func119 u ntmps119 (sr (lv (r_f u) (nsr (lv (r_0 u) (nq ?_)))))
 obtain⟨H,I,k⟩:=ob hm
 refine wc_cutg (IE H w K [] K [(0,V3 A a b)] []) ?_ ?_
 ·refine wc_block ?_
  obtain⟨aP,J,x⟩:=ob I
  refine qw (fun (l:Int)=>IW w K [] K [(0,V3 A a b),(3,V6 l)] [] (rng64 l)) J ⟨K,u,hS,kr,d_0⟩ ?_
  rintro l _ aQ aR O y ⟨B,rfl,C,f,aS⟩
  refine wc_seq (sr (mv u (mv u (lv (rv_len underlying71 u (i.mono f)) (lv (rv_lss u u) (nq (wcc O u (fun R m=>?_) (fun R m=>?_))))))))
  ·refine wc_skip (qs (wc_block (wc_seq ?_)))
   obtain⟨S,T,U⟩:=ob m
   refine wc_cutg (IV w K [] B [(0,V3 A a b),(3,V6 l),(31,.bool S)] []) ?_ ?_
   ·refine wc_quiet mixed (by kernel_rfl) C (km u (km u ?_))
    obtain⟨V,W,X⟩:=ob T
    refine ki underlying71 tf3 (i.mono f) W fun Y aa aT ab ac=>?_
    obtain⟨rfl,ad⟩:=ab
    have ae:AtK _ Y aa [V6 V]:=ac
    refine kh (rq_load1 tf3 u (ae 0 _ u)) ?_
    obtain⟨aU,af,ag⟩:=ob X
    refine kc co109 (fun _ _ ah aV=>(ok_spec_l1In F) ah.enter0 ad d_0 (by decide :rng64 999999999) af) (kv (rv_not u) (km u (bt ag (fun d o=>?_) (fun d o=>?_))))
    ·refine kn d (kn d (kn d ?_))
     iterate 10 refine ku ?_
     refine kn d (kv (p_t u d u) (wq_nil ?_))
     rintro aW ⟨ai,aj,ak⟩
     cases oi o
     exact qd ⟨ai,u,aj,ak⟩
    refine kg d (rv_move u) (kg d (rv_gtr u u) (kg d (rv_move u) (bt o (fun c q=>?_) (fun c q=>?_))))
    ·refine kg c (rv_move u) (kg c (rv_move u) ?_)
     obtain⟨al,am,an⟩:=ob q
     refine wq_indexAddr (t:=tInt) (wg u u c) u underlying71 tf3 u u (i.mono f) am fun ao ap aX aq ar=>?_
     obtain⟨rfl,aY⟩:=aq
     have au:AtK _ ao ap [V6 al]:=ar
     refine kgh c (rq_load1 tf3 u (au 0 _ u)) (kg c (rv_move u) (kg c (rv_move u) (kg c (rv_sub u u) ?_)))
     obtain⟨aw,ax,ay⟩:=ob an
     refine wq_indexAddr (t:=tInt) (wg u u c) u underlying71 tf3 u u (i.mono f) ax fun az aA aZ aB aC=>?_
     obtain⟨rfl,ba⟩:=aB
     have aD:AtK _ az aA [V6 aw]:=aC
     refine kgh c (rq_load1 tf3 u (aD 0 _ u)) (kg c (rv_leq u u) (kg d (rv_pick_t u c u) (kv (rv_pick_f u d u) (wq_nil ?_))))
     rintro bb ⟨aE,aF,aG⟩
     cases oi ay
     exact qd ⟨aE,u,aF,aG⟩
    iterate 10 refine kn c ?_
    refine kg d (p_f u c u) (kv (rv_pick_f u d u) (wq_nil ?_))
    rintro bc ⟨aH,aI,aJ⟩
    cases oi q
    exact qd ⟨aH,u,aI,aJ⟩
   rintro _ bd ⟨D,rfl,G,aK⟩
   refine qe_seq (wcc U u (fun aL s=>?_) (fun aL s=>?_))
   ·refine sr (lv (r_f u) (nq (wc_ret (qe_block_ret (qe_then_ret (qe_then_ret ?_))))))
    cases oi s
    cases y _ u
    refine qe_block_ret (qe_then_ret ?_)
    cases oi x
    refine qe_then_ret ?_
    cases oi k
    exact ey results119 ⟨D,u,G⟩
   refine wc_skip (qe_block (qe_seq (wc_region (mv u (lv (rv_add u u) (av u (wl_nil ?_)))))))
   cases oi s
   exact qd ⟨_,u,D,u,G,(f.trans aK),(w64_rng _)⟩
  refine wc_exit (qe_then_exit (qe_then_exit ?_))
  cases oi m
  cases y _ u
  refine qe_block_eq ?_
  cases oi x
  exact qd ⟨_,B,u,u,C,f⟩
 rintro _ be ⟨s8,K9,rfl,rfl,aN,aO⟩
 have k:=elim_l k
 refine qr (mv u (lv (rv_len underlying71 u (i.mono aO)) (lv (rv_leq u u) (av u (nq (wc_ret ?_))))))
 cases oi k
 exact ey results119 ⟨K9,u,aN⟩

theorem ok_spec_l12Doc {q0:GSeg}{q1:Int}{r:GDoc}(hS:SH w K [] w K [])(I:SliceAt tGDoc K A a b q0.Docs)(ba:SliceAt tGEntry K B c d q0.Entries)(bb:rng64 q1)(hm:M.spec_l12Doc F q0 q1=some r):
  Calls prog 120 #[.agg #[V3 A a b,V3 B c d],V6 q1] w fun e w'=>∃a_2 n_3 c_4 a_6 n_7 c_8 K',e= .returned (.agg #[V6 r.Id,V3 a_2 n_3 c_4,V3 a_6 n_7 c_8])∧SH w K [] w' K' []∧rng64 r.Id∧SliceAt tGField K' a_2 n_3 c_4 r.Fields∧SliceAt tGAttr K' a_6 n_7 c_8 r.Nums:=by
 rw [M.spec_l12Doc] at hm
 refine ci func120 u ntmps120 (sr (bx u hS fun J bc ao=>?_))
 have ap:SH _ _ _ _ _ [obj J [V3 A a b,V3 B c d] 46]:=ao
 refine al tf77 ap fun o bd aq=>?_
 have ar:SH _ _ _ _ _ [obj o [V6 0,V3 none 0 0,V3 none 0 0] 77,_]:=aq
 refine nsr (lv (r_0 u) (nq ?_))
 obtain⟨au,aw,H⟩:=ob hm
 refine wc_cutg (fun E' w'=>∃l O R S T U V m,au= .inl l∧E'=[(4,pt o)]∧SH w K [] w' m [obj o [V6 l.Id,V3 O R S,V3 T U V] 77]∧KLe K m∧rng64 l.Id∧SliceAt tGField m O R S l.Fields∧SliceAt tGAttr m T U V l.Nums) ?_ ?_
 ·refine wc_block ?_
  obtain⟨be,ax,af⟩:=ob aw
  refine qw (fun (k:Int×GDoc) E' w'=>∃q s x y C D f,E'=[(1,V6 q1),(2,pt J),(4,pt o),(5,V6 k.1)]∧SH w K [] w' f [obj J [V3 A a b,V3 B c d] 46,obj o [V6 k.2.Id,V3 q s x,V3 y C D] 77]∧KLe K f∧rng64 k.1∧rng64 k.2.Id∧SliceAt tGField f q s x k.2.Fields∧SliceAt tGAttr f y C D k.2.Nums) ax ⟨none,0,0,none,0,0,K,u,ar.f1,kr,d_0,d_0,(SliceAt.nil _ _),(SliceAt.nil _ _)⟩ ?_
  rintro k _ bf bg ay ag ⟨q,s,x,y,C,D,f,rfl,i,G,bh,ah,ai,aj⟩
  refine wc_seq (sr (mv u (fl ff46_0 u tf43 m0 i u (lv (rv_len underlying43 u (I.mono G)) (lv (rv_lss u u) (nq (wcc ay u (fun az W=>?_) (fun az W=>?_))))))))
  ·refine wc_skip (qs (wc_block (sr (fl ff46_0 u tf43 m0 i u (mv u ?_)))))
   obtain⟨aA,aB,aC⟩:=ob W
   refine li underlying43 tf77 (I.mono G) aB fun aD aE bi aF aG=>?_
   obtain⟨aH,aI,aJ,aK,aL,aM,rfl,bj,bk,bl⟩:=aF
   have aN:AtK _ aD aE [V6 aA.Id,V3 aH aI aJ,V3 aK aL aM]:=aG
   refine fa ff77_0 u (lv (rv_load1 tf3 u i (aN 0 _ u)) (mv u (lv (rv_eql u u) (nq (wcc aC u (fun aO X=>?_) (fun aO X=>?_))))))
   ·refine sr (fl ff46_0 u tf43 m0 i u (mv u ?_))
    obtain⟨ak,aP,aQ⟩:=ob X
    refine li underlying43 tf77 (I.mono G) aP fun aR aS bm aT aU=>?_
    obtain⟨Y,aa,ab,ac,ad,ae,rfl,aV,aW,aX⟩:=aT
    have aY:AtK _ aR aS [V6 ak.Id,V3 Y aa ab,V3 ac ad ae]:=aU
    refine lv (rv_loadS tf77 u i aY u) (lw [V6 ak.Id,V3 Y aa ab,V3 ac ad ae] tf77 i.f1 fun bn am=>(nq (wc_ret (qe_block_ret (qe_then_ret (qe_then_ret ?_))))))
    cases oi aQ
    cases ag _ u
    refine qe_block_ret (qe_then_ret ?_)
    cases oi af
    refine qe_then_ret ?_
    cases oi H
    exact ez results120 tf77 am m0 ⟨Y,aa,ab,ac,ad,ae,f,u,am.s,aV,aW,aX⟩
   refine wc_skip (qe_block (qe_seq (wc_region (mv u (lv (rv_add u u) (av u (wl_nil ?_)))))))
   cases oi X
   exact qd ⟨_,u,q,s,x,y,C,D,f,u,i,G,(w64_rng _),ah,ai,aj⟩
  refine wc_exit (qe_then_exit (qe_then_exit ?_))
  cases oi W
  cases ag _ u
  refine qe_block_eq ?_
  cases oi af
  exact qd ⟨_,q,s,x,y,C,D,f,u,u,i.s,G,ah,ai,aj⟩
 rintro _ bo ⟨l,O,R,S,T,U,V,m,rfl,rfl,aZ,bp,bq,br,bs⟩
 have H:=elim_l H
 refine qr (lv (rv_build (cs:=#[V6 0,V3 none 0 0,V3 none 0 0]) sp77 tf77 u (by kernel_rfl)) (lw [V6 0,V3 none 0 0,V3 none 0 0] tf77 aZ fun bu an=>(nq (wc_ret ?_))))
 cases oi H
 exact ez results120 tf77 an m0 ⟨none,0,0,none,0,0,m,u,an.s,d_0,(SliceAt.nil _ _),(SliceAt.nil _ _)⟩

theorem ok_spec_l18Ok {q0:GIndex}{r:Bool}(hS:SH w K [] w K [])(ao:SliceAt tStr K A a b q0.Conf.Stops)(ap:SliceAt tGSyn K B c d q0.Conf.Syns)(ae:SliceAt tGLive K C f i q0.Segs)(hm:M.spec_l18Ok F q0=some r):
  Calls prog 57 #[.agg #[V3 A a b,V3 B c d,V3 C f i]] w (R_b w K r):=by
 rw [M.spec_l18Ok] at hm
 refine ci func57 u ntmps57 (sr (bx u hS fun l cd aS=>?_))
 have aT:SH _ _ _ _ _ [obj l [V3 A a b,V3 B c d,V3 C f i] 36]:=aS
 refine lv (r_f u) (nsr (lv (r_0 u) (nq ?_)))
 obtain⟨aU,aV,Y⟩:=ob hm
 refine wc_cutg (IE aU w K [] K [(1,pt l)] [obj l [V3 A a b,V3 B c d,V3 C f i] 36]) ?_ ?_
 ·refine wc_block ?_
  obtain⟨ce,aW,aq⟩:=ob aV
  refine qw (fun (J:Int)=>IW w K [] K [(1,pt l),(3,V6 J)] [obj l [V3 A a b,V3 B c d,V3 C f i] 36] (rng64 J)) aW ⟨K,u,aT,kr,d_0⟩ ?_
  rintro J _ cf cg aX ar ⟨aI,rfl,aa,O,ch⟩
  refine wc_seq (sr (mv u (fl ff36_1 u tf34 m0 aa u (lv (rv_len underlying34 u (ae.mono O)) (lv (rv_lss u u) (nq (wcc aX u (fun aY au=>?_) (fun aY au=>?_))))))))
  ·refine wc_skip (qs (wc_block (sr (fl ff36_1 u tf34 m0 aa u (mv u ?_)))))
   obtain⟨cj,aZ,ba⟩:=ob au
   refine li underlying34 tf73 (ae.mono O) aZ fun bb bc ck bd be=>?_
   obtain⟨s,x,y,D,G,H,R,S,T,rfl,aw,aJ,af⟩:=bd
   have bf:AtK _ bb bc [V3 s x y,V3 D G H,V3 R S T]:=be
   refine lv (rv_loadS tf73 u aa bf u) (al tf73 aa fun U cl bg=>?_)
   have bh:SH _ _ _ _ _ [obj U [V3 none 0 0,V3 none 0 0,V3 none 0 0] 73,_]:=bg
   refine lw [V3 s x y,V3 D G H,V3 R S T] tf73 bh fun cm ag=>(ns (wc_seq ?_))
   obtain⟨bi,bj,bk⟩:=ob ba
   refine wc_cutg (IV w K [] aI [(1,pt l),(3,V6 J),(4,pt U),(39,.bool bi)] [obj l [V3 A a b,V3 B c d,V3 C f i] 36,obj U [V3 s x y,V3 D G H,V3 R S T] 73]) ?_ ?_
   ·refine wc_region (fa ff36_0 u (lv (rv_loadmS (ds:=[V3 A a b,V3 B c d]) tf33 u m1 ag u u) (fa ff73_0 u (lv (rv_loadmS (ds:=[V3 s x y,V3 D G H]) tf46 u m0 ag u u) ?_))))
    obtain⟨cn,bl,bm⟩:=ob bj
    refine lk co90 (ok_spec_l7Ok F ag.enter0 (ao.mono O) (ap.mono O) aw aJ bl) ?_
    rintro cp cq ⟨bn,rfl,I⟩
    have ah:=(ag.c0 I).t2
    refine lv (rv_not u) (mv u (bt bm (fun m ax=>?_) (fun m ax=>?_)))
    ·refine lu m (lu m (lu m (lu m (lv (p_t u m u) (mv u ?_)))))
     iterate 8 refine lu u ?_
     refine lv (p_t u u u) (wl_nil ?_)
     cases oi ax
     exact qd ⟨bn,u,ah.f1,I.le⟩
    refine lg m (rv_fieldAddr ff73_1 u) (lg m (rv_loadm1 tf71 u m0 ah u) ?_)
    obtain⟨cr,bo,bp⟩:=ob ax
    refine wl_call (wg u u m) u (rt_call (vs:=[V3 R S T]) co119 u) (ok_spec_l3Up F ah.enter0 (af.mono I.le) bo) ?_
    rintro cs ct ⟨aK,rfl,ab⟩
    refine⟨_,u,?_⟩
    have ai:=(ah.c0 ab).t2
    refine lg m (rv_not u) (lv (rv_pick_f u m u) (mv u (bt bp (fun k ay=>?_) (fun k ay=>?_))))
    ·iterate 8 refine lu k ?_
     refine lv (p_t u k u) (wl_nil ?_)
     cases oi ay
     exact qd ⟨aK,u,ai.f1,(I.le.trans ab.le)⟩
    refine lg k (rv_fieldAddr ff73_1 u) (lg k (rv_loadm1 tf71 u m0 ai u) (lg k (rv_len underlying71 u (af.mono (I.le.trans ab.le))) (lg k (rv_fieldAddr ff73_0 u) (lg k (rv_fieldAddr ff46_0 u) (lg k (rv_loadm1 tf43 u m0 ai u) (lg k (rv_len underlying43 u (aw.mono (I.le.trans ab.le))) (lg k (rv_geq u u) (lv (rv_pick_f u k u) (wl_nil ?_)))))))))
    cases oi ay
    exact qd ⟨aK,u,ai.f1,(I.le.trans ab.le)⟩
   rintro _ cu ⟨aj,rfl,aL,ac⟩
   refine qe_seq (wcc bk u (fun bq az=>?_) (fun bq az=>?_))
   ·refine sr (lv (r_f u) (nq (rr (qe_block_ret (qe_then_ret (qe_then_ret ?_))))))
    cases oi az
    cases ar _ u
    refine qe_block_ret (qe_then_ret ?_)
    cases oi aq
    refine qe_then_ret ?_
    cases oi Y
    exact ey results57 ⟨aj,u,aL.s⟩
   refine wc_skip (qr (lv (r_0 u) (nq ?_)))
   obtain⟨br,bs,ak⟩:=ob az
   refine wc_cutg (IE br w K [] aj [(1,pt l),(3,V6 J)] [obj l [V3 A a b,V3 B c d,V3 C f i] 36]) ?_ ?_
   ·refine wc_block ?_
    obtain⟨cv,bu,aM⟩:=ob bs
    refine qw (fun (aA:Int)=>IW w K [] aj [(1,pt l),(3,V6 J),(4,pt U),(5,V6 aA)] [obj l [V3 A a b,V3 B c d,V3 C f i] 36,obj U [V3 s x y,V3 D G H,V3 R S T] 73] (rng64 aA)) bu ⟨aj,u,aL,kr,d_0⟩ ?_
    rintro aA _ cw cx bv aN ⟨aO,rfl,aB,V,cy⟩
    refine wc_seq (sr (mv u (fl ff73_1 u tf71 m1 aB u (lv (rv_len underlying71 u (af.mono (ac.trans V))) (lv (rv_lss u u) (nq (wcc bv u (fun bz aC=>?_) (fun bz aC=>?_))))))))
    ·refine wc_skip (qs (wc_block (wc_seq ?_)))
     have am:=aB.drew
     refine wh1 (fun w'=>Holds aO w'∧HasObj U [V3 s x y,V3 D G H,V3 R S T] w') (fun w'=>True) 10 [] mixed ⟨am.hasK kr,am.hasObj m1⟩ (fun _=>trivial) (gt (rv_fieldAddr ff73_0 u) (gh (fun _ h=>rh_loadmS (ds:=[V3 s x y,V3 D G H]) tf46 u u u h.2) (gt (rv_fieldAddr ff73_1 u) (gh (fun _ h=>rh_loadm1 tf71 u u h.2) (gt (rv_move u) ?_)))))
     obtain⟨bA,bB,bC⟩:=ob aC
     refine gi underlying71 tf3 (af.mono (ac.trans V)) bB fun bD bE cz bF bG=>?_
     obtain⟨rfl,bH⟩:=bF
     have bI:AtK _ bD bE [V6 bA]:=bG
     refine gh (fun _ h=>rh_load1 tf3 u (bI 0 _ u) h.1) (gn ?_)
     obtain⟨cA,bJ,bK⟩:=ob bC
     refine lk co120 (ok_spec_l12Doc F am.enter0 (aw.mono (ac.trans V)) (aJ.mono (ac.trans V)) bH bJ) ?_
     rintro cB cC ⟨cD,cE,cF,cG,cH,cI,aP,rfl,aD,cJ,cK,cL⟩
     have an:=(am.c0 aD).t2
     refine wl_nil (qh ⟨an.hasK aD.le,an.hasObj m1⟩ (fun _=>trivial) (gt (rv_field fg77_0 tf3 u (.inl ⟨u,u⟩)) (gt (rv_eql u u) (gd' (qe_seq (wcc bK u (fun bL aE=>?_) (fun bL aE=>?_)))))))
     ·refine sr (lv (r_f u) (nq (wc_ret (qe_block_ret (qe_then_ret (qe_then_ret ?_))))))
      cases oi aE
      cases aN _ u
      refine qe_block_ret (qe_then_ret ?_)
      cases oi aM
      refine qe_block_ret (qe_then_ret (qe_then_ret ?_))
      cases oi ak
      cases ar _ u
      refine qe_block_ret (qe_then_ret ?_)
      cases oi aq
      refine qe_then_ret ?_
      cases oi Y
      exact ey results57 ⟨aP,u,an.s⟩
     refine wc_skip (qe_block (qe_seq (wc_region (mv u (lv (rv_add u u) (av u (wl_nil ?_)))))))
     cases oi aE
     exact qd ⟨_,u,aP,u,an,(V.trans aD.le),(w64_rng _)⟩
    refine wc_exit (qe_then_exit (qe_then_exit ?_))
    cases oi aC
    cases aN _ u
    refine qe_block_eq ?_
    cases oi aM
    exact qd ⟨_,aO,u,u,aB.s,V⟩
   rintro _ cM ⟨cN,bM,rfl,rfl,bN,bO⟩
   have ak:=elim_l ak
   refine qe_block (qe_seq (wc_region (mv u (lv (rv_add u u) (av u (wl_nil ?_))))))
   cases oi ak
   exact qd ⟨_,u,bM,u,bN,((O.trans ac).trans bO),(w64_rng _)⟩
  refine wc_exit (qe_then_exit (qe_then_exit ?_))
  cases oi au
  cases ar _ u
  refine qe_block_eq ?_
  cases oi aq
  exact qd ⟨_,aI,u,u,aa,O⟩
 rintro _ cO ⟨cP,cQ,rfl,rfl,aF,W⟩
 have Y:=elim_l Y
 refine qr (fa ff36_0 u (lv (rv_loadmS (ds:=[V3 A a b,V3 B c d]) tf33 u m0 aF u u) ?_))
 obtain⟨cR,bP,bQ⟩:=ob Y
 refine lk co66 (ok_spec_l2Ok F aF.enter0 (ao.mono W) (ap.mono W) bP) ?_
 rintro cS cT ⟨aQ,rfl,ad⟩
 have X:=(aF.c0 ad).t1
 refine mv u (bt bQ (fun o aG=>?_) (fun o aG=>?_))
 ·refine lg o (rv_fieldAddr ff36_1 u) (lg o (rv_loadm1 tf34 u m0 X u) (lg o (rv_len underlying34 u (ae.mono (W.trans ad.le))) (lg o (rv_leq u u) (lv (rv_pick_t u o u) (mv u (bt aG (fun q aH=>?_) (fun q aH=>?_)))))))
  ·refine lg q (rv_loadmS (ds:=[V3 A a b,V3 B c d,V3 C f i]) tf36 u m0 X u u) ?_
   obtain⟨cU,bR,bS⟩:=ob aH
   refine wl_call (wg u u q) u (rt_call (vs:=[.agg #[V3 A a b,V3 B c d,V3 C f i]]) co99 u) (ok_spec_l18Docs F X.enter0 (ao.mono (W.trans ad.le)) (ap.mono (W.trans ad.le)) (ae.mono (W.trans ad.le)) bR) ?_
   rintro cV cW ⟨bT,bU,bV,cX,rfl,bW,bX⟩
   refine⟨_,u,?_⟩
   have aR:=(X.c0 bW).t2
   obtain⟨cY,bY,bZ⟩:=ob bS
   refine wl_call (wg u u q) u (rt_call (vs:=[V3 bT bU bV]) co67 u) (ok_spec_l6Docs F aR.enter0 bX bY) ?_
   rintro cZ da ⟨ca,rfl,cb⟩
   refine⟨_,u,?_⟩
   have cc:=(aR.c0 cb).t2
   refine lv (rv_pick_t u q u) (av u (nq (wc_ret ?_)))
   cases oi bZ
   exact ey results57 ⟨ca,u,cc.s⟩
  refine lu q (lu q (lu q (lv (p_f u q u) (av u (nq (wc_ret ?_))))))
  cases oi aH
  exact ey results57 ⟨aQ,u,X.s⟩
 refine lu o (lu o (lu o (lu o (lv (p_f u o u) (mv u (lu u (lu u (lu u (lv (p_f u u u) ?_)))))))))
 refine av u (nq (wc_ret ?_))
 cases oi aG
 exact ey results57 ⟨aQ,u,X.s⟩

theorem ok_spec_IndexOk {q0:GIndex}{r:Bool}(hS:SH w K [] w K [])(l:SliceAt tStr K A a b q0.Conf.Stops)(m:SliceAt tGSyn K B c d q0.Conf.Syns)(o:SliceAt tGLive K C f i q0.Segs)(hm:M.spec_IndexOk F q0=some r):
  Calls prog 12 #[.agg #[V3 A a b,V3 B c d,V3 C f i]] w (R_b w K r):=by
 rw [M.spec_IndexOk] at hm
 refine ci func12 u ntmps12 (sr (bx u hS fun q I s=>?_))
 have k:SH _ _ _ _ _ [obj q [V3 A a b,V3 B c d,V3 C f i] 36]:=s
 refine lv (r_f u) (nr (lv (rv_loadmS (ds:=[V3 A a b,V3 B c d,V3 C f i]) tf36 u m0 k u u) ?_))
 obtain⟨J,x,y⟩:=ob hm
 refine lk co57 (ok_spec_l18Ok F k.enter0 l m o x) ?_
 rintro O R ⟨D,rfl,G⟩
 have H:=(k.c0 G).t1
 refine av u (nq (wc_ret ?_))
 cases oi y
 exact ey results12 ⟨D,u,H.s⟩

theorem ok_laws_toStringS {q0:List Str}{r:(List Str)}(hS:SH w K [] w K [])(s:SliceAt tStr K A a b q0)(hm:M.laws_toStringS F q0=some r):
  Calls prog 69 #[V3 A a b] w fun e w'=>∃a_1 n_2 c_3 K',e= .returned (V3 a_1 n_2 c_3)∧SH w K [] w' K' [tail (V3 a_1 n_2 c_3) 9 1]∧SliceAt tStr K' a_1 n_2 c_3 r:=by
 rw [M.laws_toStringS] at hm
 refine ci func69 u ntmps69 (sr (lv (r_n u) (nr (mv u (lv (rv_len underlying22 u s) ?_)))))
 obtain⟨H,I,J⟩:=ob hm
 refine wl_make (t:=tStr) wn u underlying22 tf9 u u u I ⟨u,(by decide :([]:Str).length≤maxLen)⟩ hS fun k cs9 ao hmx13 hrow11 O=>?_
 obtain⟨m14,hm15⟩: ∃m,m=H.length:=⟨_,u⟩
 rw [←hm15] at hmx13
 rw [←hm15]
 refine av u (nsr (lv (r_0 u) (nq ?_)))
 obtain⟨C,R,S⟩:=ob J
 refine wc_cutg (fun E' w'=>∃cs23 l,E'=[(3,V3 (some ⟨k,0,none⟩) m14 m14)]∧SH w K [] w' l [obj k cs23 9]∧KLe K l∧RowAt true tStr l cs23 C∧m14=C.length) ?_ ?_
 ·refine wc_block ?_
  obtain⟨ap,T,U⟩:=ob R
  refine qw (fun (c:Int×(List Str)) E' w'=>∃cs36 f,E'=[(0,V3 A a b),(3,V3 (some ⟨k,0,none⟩) m14 m14),(4,V6 c.1)]∧SH w K [] w' f [obj k cs36 9]∧KLe K f∧rng64 c.1∧RowAt true tStr f cs36 c.2∧m14=c.2.length) T ⟨cs9,K,u,O,kr,d_0,hrow11,hm15⟩ ?_
  rintro c _ aq ar V W ⟨cs36,f,rfl,x,o,au,hrow37,hm38⟩
  refine wc_seq (sr (mv u (mv u (lv (rv_len underlying22 u (s.mono o)) (lv (rv_lss u u) (nq (wcc V u (fun X y=>?_) (fun X y=>?_))))))))
  ·refine wc_skip (qs (wc_block (wc_region (mv u (mv u (mv u (mv u ?_)))))))
   obtain⟨q,Y,aa⟩:=ob y
   refine li underlying22 tf9 (s.mono o) Y fun ab ac aw ad ae=>?_
   obtain⟨rfl,af⟩:=ad
   have ag:AtK _ ab ac [sv q]:=ae
   refine lv (rv_load1 tf9 u x (ag 0 _ u)) ?_
   obtain⟨ah,B,ai⟩:=ob aa
   obtain⟨ax,aj,ak⟩:=RowAt.at hrow37 B
   obtain⟨rfl,ay⟩:=aj
   have az: ∀(j:Nat) (d:Value),[sv ah][j]? =some d→cs36[c.1.toNat*tStr.size+j]? =some d:=ak
   refine lv (rv_indexRow (t:=tStr) underlying22 tf9 u u hm38 B) (wl_storeRow (t:=tStr) (v:=sv q) (e:=q) wn tf9 u u ⟨u,af⟩ x hrow37 B fun cs62 aA hrow64 al=>?_)
   have hm66:=hm38.trans (List.length_set (i:=c.1.toNat) (a:=q)).symm
   refine nb (qe_seq (wc_region (mv u (lv (rv_add u u) (av u (wl_nil ?_))))))
   cases oi ai
   exact qd ⟨_,u,cs62,f,u,al,o,(w64_rng _),hrow64,hm66⟩
  refine wc_exit (qe_then_exit (qe_then_exit ?_))
  cases oi y
  cases W _ u
  refine qe_block_eq ?_
  cases oi U
  exact qd ⟨cs36,f,u,x,o,hrow37,hm38⟩
 rintro _ aB ⟨cs23,l,rfl,am,aC,hrow24,hm25⟩
 refine qr (mv u (av u (nq (wc_ret ?_))))
 obtain⟨an,aD,D,G⟩:=SH.freeze am hrow24 (row_max hm25 hmx13)
 rw [←hm25] at D G
 cases oi S
 exact ey results69 ⟨(some ⟨k,0,none⟩),m14,m14,an,u,G,D⟩

theorem ok_laws_toSyn {q0:GSyn}{r:GSyn}(hS:SH w K [] w K [])(o:SliceAt tStr K A a b q0.From)(q:q0.To.length≤maxLen)(hm:M.laws_toSyn F q0=some r):
  Calls prog 144 #[.agg #[V3 A a b,sv q0.To]] w fun e w'=>∃a_1 n_2 c_3 K',e= .returned (.agg #[V3 a_1 n_2 c_3,sv r.To])∧SH w K [] w' K' [tail (V3 a_1 n_2 c_3) 9 1]∧SliceAt tStr K' a_1 n_2 c_3 r.From∧r.To.length≤maxLen:=by
 rw [M.laws_toSyn] at hm
 refine ci func144 u ntmps144 (sr (bx u hS fun s T v=>?_))
 have x:SH _ _ _ _ _ [obj s [V3 A a b,sv q0.To] 170]:=v
 refine al tf159 x fun y U B=>?_
 have C:SH _ _ _ _ _ [obj y [V3 none 0 0,sv []] 159,_]:=B
 refine nr (al tf159 C fun D V G=>?_)
 have i:SH _ _ _ _ _ [obj D [V3 none 0 0,sv []] 159,_,_]:=G
 refine nr (fl ff170_0 u tf22 m2 i u ?_)
 obtain⟨W,H,I⟩:=ob hm
 refine lk co69 (ok_laws_toStringS F i.enter0 o H) ?_
 rintro X Y ⟨c,d,f,J,rfl,O,R⟩
 have S:=(i.c0 O).t4
 refine fa ff159_0 u (ls [V3 c d f,sv []] (V3 c d f) tf22 S.f1 fun aa k=>(nr (fl ff170_1 u tf9 m3 k u (fa ff159_1 u (ls [V3 c d f,sv q0.To] (sv q0.To) tf9 k fun ab l=>(nr (lv (rv_loadmS (ds:=[V3 c d f,sv q0.To]) tf159 u m0 l u u) (lw [V3 c d f,sv q0.To] tf159 l.f2 fun ac m=>(nq ?_)))))))))
 refine wc_ret ?_
 cases oi I
 exact ez results144 tf159 m m0 ⟨c,d,f,J,u,m.s,R,q⟩

theorem ok_laws_toSynS {q0:List GSyn}{r:(List GSyn)}(hS:SH w K [] w K [])(x:SliceAt tGSyn K A a b q0)(hm:M.laws_toSynS F q0=some r):
  Calls prog 70 #[V3 A a b] w fun e w'=>∃a_1 n_2 c_3 K',e= .returned (V3 a_1 n_2 c_3)∧SH w K [] w' K' [tail (V3 a_1 n_2 c_3) 159 2]∧SliceAt tGSyn K' a_1 n_2 c_3 r:=by
 rw [M.laws_toSynS] at hm
 refine ci func70 u ntmps70 (sr (lv (r_n u) (nr (mv u (lv (rv_len underlying23 u x) ?_)))))
 obtain⟨R,S,T⟩:=ob hm
 refine wl_make (t:=tGSyn) wn u underlying31 tf159 u u u S ⟨none,0,0,u,(SliceAt.nil _ _),(by decide :([]:Str).length≤maxLen)⟩ hS fun f cs9 aJ hmx13 hrow11 U=>?_
 obtain⟨m14,hm15⟩: ∃m,m=R.length:=⟨_,u⟩
 rw [←hm15] at hmx13
 rw [←hm15]
 refine av u (nsr (lv (r_0 u) (nq ?_)))
 obtain⟨D,V,W⟩:=ob T
 refine wc_cutg (fun E' w'=>∃cs23 l,E'=[(3,V3 (some ⟨f,0,none⟩) m14 m14)]∧SH w K [] w' l [obj f cs23 159]∧KLe K l∧RowAt true tGSyn l cs23 D∧m14=D.length) ?_ ?_
 ·refine wc_block ?_
  obtain⟨aK,X,Y⟩:=ob V
  refine qw (fun (c:Int×(List GSyn)) E' w'=>∃cs36 k,E'=[(0,V3 A a b),(3,V3 (some ⟨f,0,none⟩) m14 m14),(4,V6 c.1)]∧SH w K [] w' k [obj f cs36 159]∧KLe K k∧rng64 c.1∧RowAt true tGSyn k cs36 c.2∧m14=c.2.length) X ⟨cs9,K,u,U,kr,d_0,hrow11,hm15⟩ ?_
  rintro c _ aL aM aa ab ⟨cs36,k,rfl,o,q,aN,hrow37,hm38⟩
  refine wc_seq (sr (mv u (mv u (lv (rv_len underlying23 u (x.mono q)) (lv (rv_lss u u) (nq (wcc aa u (fun ac y=>?_) (fun ac y=>?_))))))))
  ·refine wc_skip (qs (wc_block (wc_region (mv u (mv u (mv u (mv u ?_)))))))
   obtain⟨ad,ae,af⟩:=ob y
   refine li underlying23 tf170 (x.mono q) ae fun ag ah aO ai aj=>?_
   obtain⟨ak,al,am,rfl,an,ao⟩:=ai
   have ap:AtK _ ag ah [V3 ak al am,sv ad.To]:=aj
   refine lv (rv_loadS tf170 u o ap u) ?_
   obtain⟨B,aq,ar⟩:=ob af
   refine lk co144 (ok_laws_toSyn F o.enter0 an ao aq) ?_
   rintro aP aQ ⟨G,H,I,au,rfl,s,aw,ax⟩
   have ay:=(o.c0 s).t2
   obtain⟨az,C,aA⟩:=ob ar
   obtain⟨aR,aB,aC⟩:=RowAt.at (RowAt.mono s.le hrow37) C
   obtain⟨aD,aE,aF,rfl,aS,aT⟩:=aB
   have aU: ∀(j:Nat) (d:Value),[V3 aD aE aF,sv az.To][j]? =some d→cs36[c.1.toNat*tGSyn.size+j]? =some d:=aC
   refine lv (rv_indexRow (t:=tGSyn) underlying31 tf159 u u hm38 C) (wl_storeRow (t:=tGSyn) (v:=.agg #[V3 G H I,sv B.To]) (e:=B) wn tf159 u u ⟨G,H,I,u,aw,ax⟩ ay.f1 (RowAt.mono s.le hrow37) C fun cs84 aV hrow86 aG=>?_)
   have hm88:=hm38.trans (List.length_set (i:=c.1.toNat) (a:=B)).symm
   refine nb (qe_seq (wc_region (mv u (lv (rv_add u u) (av u (wl_nil ?_))))))
   cases oi aA
   exact qd ⟨_,u,cs84,au,u,aG.s,(q.trans s.le),(w64_rng _),hrow86,hm88⟩
  refine wc_exit (qe_then_exit (qe_then_exit ?_))
  cases oi y
  cases ab _ u
  refine qe_block_eq ?_
  cases oi Y
  exact qd ⟨cs36,k,u,o,q,hrow37,hm38⟩
 rintro _ aW ⟨cs23,l,rfl,aH,aX,hrow24,hm25⟩
 refine qr (mv u (av u (nq (wc_ret ?_))))
 obtain⟨aI,aY,J,O⟩:=SH.freeze aH hrow24 (row_max hm25 hmx13)
 rw [←hm25] at J O
 cases oi W
 exact ey results70 ⟨(some ⟨f,0,none⟩),m14,m14,aI,u,O,J⟩

theorem ok_laws_toConf {q0:GConf}{r:GConf}(hS:SH w K [] w K [])(D:SliceAt tStr K A a b q0.Stops)(G:SliceAt tGSyn K B c d q0.Syns)(hm:M.laws_toConf F q0=some r):
  Calls prog 19 #[.agg #[V3 A a b,V3 B c d]] w fun e w'=>∃a_1 n_2 c_3 a_5 n_6 c_7 K',e= .returned (.agg #[V3 a_1 n_2 c_3,V3 a_5 n_6 c_7])∧SH w K [] w' K' [tail (V3 a_1 n_2 c_3) 9 1,tail (V3 a_5 n_6 c_7) 159 2]∧SliceAt tStr K' a_1 n_2 c_3 r.Stops∧SliceAt tGSyn K' a_5 n_6 c_7 r.Syns:=by
 rw [M.laws_toConf] at hm
 refine ci func19 u ntmps19 (sr (bx u hS fun H af I=>?_))
 have J:SH _ _ _ _ _ [obj H [V3 A a b,V3 B c d] 25]:=I
 refine al tf33 J fun O ag R=>?_
 have S:SH _ _ _ _ _ [obj O [V3 none 0 0,V3 none 0 0] 33,_]:=R
 refine nr (al tf33 S fun T ah U=>?_)
 have q:SH _ _ _ _ _ [obj T [V3 none 0 0,V3 none 0 0] 33,_,_]:=U
 refine nr (fl ff25_0 u tf22 m2 q u ?_)
 obtain⟨ai,V,W⟩:=ob hm
 refine lk co69 (ok_laws_toStringS F q.enter0 D V) ?_
 rintro aj ak ⟨f,i,k,am,rfl,v,X⟩
 have Y:=(q.c0 v).t4
 refine fa ff33_0 u (ls [V3 f i k,V3 none 0 0] (V3 f i k) tf22 Y.f1 fun an s=>(nr (fl ff25_1 u tf23 m3 s u ?_)))
 obtain⟨ao,aa,ab⟩:=ob W
 refine lk co70 (ok_laws_toSynS F s.enter0 (G.mono v.le) aa) ?_
 rintro ap aq ⟨l,m,o,ac,rfl,x,ad⟩
 have ae:=(s.c0 x).t5
 refine fa ff33_1 u (ls [V3 f i k,V3 l m o] (V3 l m o) tf31 ae.f1 fun ar y=>(nr (lv (rv_loadmS (ds:=[V3 f i k,V3 l m o]) tf33 u m0 y u u) (lw [V3 f i k,V3 l m o] tf33 y.f3 fun au C=>(nq (wc_ret ?_))))))
 cases oi ab
 exact ez results19 tf33 C m0 ⟨f,i,k,l,m,o,ac,u,C.f2.f3.s,(X.mono x.le),ad⟩

theorem ok_laws_toField {q0:GField}{r:GField}(hS:SH w K [] w K [])(f:q0.Name.length≤maxLen)(i:q0.Text.length≤maxLen)(hm:M.laws_toField F q0=some r):
  Calls prog 199 #[.agg #[sv q0.Name,sv q0.Text]] w fun e w'=>∃K',e= .returned (.agg #[sv r.Name,sv r.Text])∧SH w K [] w' K' []∧r.Name.length≤maxLen∧r.Text.length≤maxLen:=by
 rw [M.laws_toField] at hm
 refine ci func199 u ntmps199 (sr (bx u hS fun g3 x k=>?_))
 have l:SH _ _ _ _ _ [obj g3 [sv q0.Name,sv q0.Text] 223]:=k
 refine al tf108 l fun m y o=>?_
 have q:SH _ _ _ _ _ [obj m [sv [],sv []] 108,_]:=o
 refine nr (al tf108 q fun s A v=>?_)
 have a:SH _ _ _ _ _ [obj s [sv [],sv []] 108,_,_]:=v
 refine nr (fl ff223_0 u tf9 m2 a u (fa ff108_0 u (ls [sv q0.Name,sv []] (sv q0.Name) tf9 a fun B b=>(nr (fl ff223_1 u tf9 m2 b u (fa ff108_1 u (ls [sv q0.Name,sv q0.Text] (sv q0.Text) tf9 b fun C c=>(nr (lv (rv_loadmS (ds:=[sv q0.Name,sv q0.Text]) tf108 u m0 c u u) ?_)))))))))
 refine lw [sv q0.Name,sv q0.Text] tf108 c.f1 fun D d=>(nq (wc_ret ?_))
 cases oi hm
 exact ez results199 tf108 d m0 ⟨K,u,d.s,f,i⟩

theorem ok_laws_toFieldS {q0:List GField}{r:(List GField)}(hS:SH w K [] w K [])(y:SliceAt tGField K A a b q0)(hm:M.laws_toFieldS F q0=some r):
  Calls prog 145 #[V3 A a b] w fun e w'=>∃a_1 n_2 c_3 K',e= .returned (V3 a_1 n_2 c_3)∧SH w K [] w' K' [tail (V3 a_1 n_2 c_3) 108 2]∧SliceAt tGField K' a_1 n_2 c_3 r:=by
 rw [M.laws_toFieldS] at hm
 refine ci func145 u ntmps145 (sr (lv (r_n u) (nr (mv u (lv (rv_len underlying99 u y) ?_)))))
 obtain⟨O,R,S⟩:=ob hm
 refine wl_make (t:=tGField) wn u underlying74 tf108 u u u R ⟨u,(by decide :([]:Str).length≤maxLen),(by decide :([]:Str).length≤maxLen)⟩ hS fun f cs9 aA hmx13 hrow11 T=>?_
 obtain⟨m14,hm15⟩: ∃m,m=O.length:=⟨_,u⟩
 rw [←hm15] at hmx13
 rw [←hm15]
 refine av u (nsr (lv (r_0 u) (nq ?_)))
 obtain⟨D,U,V⟩:=ob S
 refine wc_cutg (fun E' w'=>∃cs23 l,E'=[(3,V3 (some ⟨f,0,none⟩) m14 m14)]∧SH w K [] w' l [obj f cs23 108]∧KLe K l∧RowAt true tGField l cs23 D∧m14=D.length) ?_ ?_
 ·refine wc_block ?_
  obtain⟨aB,W,X⟩:=ob U
  refine qw (fun (c:Int×(List GField)) E' w'=>∃cs36 k,E'=[(0,V3 A a b),(3,V3 (some ⟨f,0,none⟩) m14 m14),(4,V6 c.1)]∧SH w K [] w' k [obj f cs36 108]∧KLe K k∧rng64 c.1∧RowAt true tGField k cs36 c.2∧m14=c.2.length) W ⟨cs9,K,u,T,kr,d_0,hrow11,hm15⟩ ?_
  rintro c _ aC aD Y aa ⟨cs36,k,rfl,o,q,aE,hrow37,hm38⟩
  refine wc_seq (sr (mv u (mv u (lv (rv_len underlying99 u (y.mono q)) (lv (rv_lss u u) (nq (wcc Y u (fun ab B=>?_) (fun ab B=>?_))))))))
  ·refine wc_skip (qs (wc_block (wc_region (mv u (mv u (mv u (mv u ?_)))))))
   obtain⟨G,ac,ad⟩:=ob B
   refine li underlying99 tf223 (y.mono q) ac fun ae af aF ag ah=>?_
   obtain⟨rfl,ai,aj⟩:=ag
   have ak:AtK _ ae af [sv G.Name,sv G.Text]:=ah
   refine lv (rv_loadS tf223 u o ak u) ?_
   obtain⟨s,al,am⟩:=ob ad
   refine lk co199 (ok_laws_toField F o.enter0 ai aj al) ?_
   rintro aG aH ⟨an,rfl,x,ao,ap⟩
   have aq:=(o.c0 x).t1
   obtain⟨H,C,ar⟩:=ob am
   obtain⟨aI,au,aw⟩:=RowAt.at (RowAt.mono x.le hrow37) C
   obtain⟨rfl,aJ,aK⟩:=au
   have aL: ∀(j:Nat) (d:Value),[sv H.Name,sv H.Text][j]? =some d→cs36[c.1.toNat*tGField.size+j]? =some d:=aw
   refine lv (rv_indexRow (t:=tGField) underlying74 tf108 u u hm38 C) (wl_storeRow (t:=tGField) (v:=.agg #[sv s.Name,sv s.Text]) (e:=s) wn tf108 u u ⟨u,ao,ap⟩ aq (RowAt.mono x.le hrow37) C fun cs74 aM hrow76 ax=>?_)
   have hm78:=hm38.trans (List.length_set (i:=c.1.toNat) (a:=s)).symm
   refine nb (qe_seq (wc_region (mv u (lv (rv_add u u) (av u (wl_nil ?_))))))
   cases oi ar
   exact qd ⟨_,u,cs74,an,u,ax,(q.trans x.le),(w64_rng _),hrow76,hm78⟩
  refine wc_exit (qe_then_exit (qe_then_exit ?_))
  cases oi B
  cases aa _ u
  refine qe_block_eq ?_
  cases oi X
  exact qd ⟨cs36,k,u,o,q,hrow37,hm38⟩
 rintro _ aN ⟨cs23,l,rfl,ay,aO,hrow24,hm25⟩
 refine qr (mv u (av u (nq (wc_ret ?_))))
 obtain⟨az,aP,I,J⟩:=SH.freeze ay hrow24 (row_max hm25 hmx13)
 rw [←hm25] at I J
 cases oi V
 exact ey results145 ⟨(some ⟨f,0,none⟩),m14,m14,az,u,J,I⟩

theorem ok_laws_toAttr {q0:GAttr}{r:GAttr}(hS:SH w K [] w K [])(f:q0.Name.length≤maxLen)(i:rng64 q0.Num)(hm:M.laws_toAttr F q0=some r):
  Calls prog 200 #[.agg #[sv q0.Name,V6 q0.Num]] w fun e w'=>∃K',e= .returned (.agg #[sv r.Name,V6 r.Num])∧SH w K [] w' K' []∧r.Name.length≤maxLen∧rng64 r.Num:=by
 rw [M.laws_toAttr] at hm
 refine ci func200 u ntmps200 (sr (bx u hS fun g3 x k=>?_))
 have l:SH _ _ _ _ _ [obj g3 [sv q0.Name,V6 q0.Num] 225]:=k
 refine al tf142 l fun m y o=>?_
 have q:SH _ _ _ _ _ [obj m [sv [],V6 0] 142,_]:=o
 refine nr (al tf142 q fun s A v=>?_)
 have a:SH _ _ _ _ _ [obj s [sv [],V6 0] 142,_,_]:=v
 refine nr (fl ff225_0 u tf9 m2 a u (fa ff142_0 u (ls [sv q0.Name,V6 0] (sv q0.Name) tf9 a fun B b=>(nr (fl ff225_1 u tf3 m2 b u (fa ff142_1 u (ls [sv q0.Name,V6 q0.Num] (V6 q0.Num) tf3 b fun C c=>(nr (lv (rv_loadmS (ds:=[sv q0.Name,V6 q0.Num]) tf142 u m0 c u u) ?_)))))))))
 refine lw [sv q0.Name,V6 q0.Num] tf142 c.f1 fun D d=>(nq (wc_ret ?_))
 cases oi hm
 exact ez results200 tf142 d m0 ⟨K,u,d.s,f,i⟩

theorem ok_laws_toAttrS {q0:List GAttr}{r:(List GAttr)}(hS:SH w K [] w K [])(y:SliceAt tGAttr K A a b q0)(hm:M.laws_toAttrS F q0=some r):
  Calls prog 146 #[V3 A a b] w fun e w'=>∃a_1 n_2 c_3 K',e= .returned (V3 a_1 n_2 c_3)∧SH w K [] w' K' [tail (V3 a_1 n_2 c_3) 142 2]∧SliceAt tGAttr K' a_1 n_2 c_3 r:=by
 rw [M.laws_toAttrS] at hm
 refine ci func146 u ntmps146 (sr (lv (r_n u) (nr (mv u (lv (rv_len underlying100 u y) ?_)))))
 obtain⟨O,R,S⟩:=ob hm
 refine wl_make (t:=tGAttr) wn u underlying75 tf142 u u u R ⟨u,(by decide :([]:Str).length≤maxLen),d_0⟩ hS fun f cs9 aA hmx13 hrow11 T=>?_
 obtain⟨m14,hm15⟩: ∃m,m=O.length:=⟨_,u⟩
 rw [←hm15] at hmx13
 rw [←hm15]
 refine av u (nsr (lv (r_0 u) (nq ?_)))
 obtain⟨D,U,V⟩:=ob S
 refine wc_cutg (fun E' w'=>∃cs23 l,E'=[(3,V3 (some ⟨f,0,none⟩) m14 m14)]∧SH w K [] w' l [obj f cs23 142]∧KLe K l∧RowAt true tGAttr l cs23 D∧m14=D.length) ?_ ?_
 ·refine wc_block ?_
  obtain⟨aB,W,X⟩:=ob U
  refine qw (fun (c:Int×(List GAttr)) E' w'=>∃cs36 k,E'=[(0,V3 A a b),(3,V3 (some ⟨f,0,none⟩) m14 m14),(4,V6 c.1)]∧SH w K [] w' k [obj f cs36 142]∧KLe K k∧rng64 c.1∧RowAt true tGAttr k cs36 c.2∧m14=c.2.length) W ⟨cs9,K,u,T,kr,d_0,hrow11,hm15⟩ ?_
  rintro c _ aC aD Y aa ⟨cs36,k,rfl,o,q,aE,hrow37,hm38⟩
  refine wc_seq (sr (mv u (mv u (lv (rv_len underlying100 u (y.mono q)) (lv (rv_lss u u) (nq (wcc Y u (fun ab B=>?_) (fun ab B=>?_))))))))
  ·refine wc_skip (qs (wc_block (wc_region (mv u (mv u (mv u (mv u ?_)))))))
   obtain⟨G,ac,ad⟩:=ob B
   refine li underlying100 tf225 (y.mono q) ac fun ae af aF ag ah=>?_
   obtain⟨rfl,ai,aj⟩:=ag
   have ak:AtK _ ae af [sv G.Name,V6 G.Num]:=ah
   refine lv (rv_loadS tf225 u o ak u) ?_
   obtain⟨s,al,am⟩:=ob ad
   refine lk co200 (ok_laws_toAttr F o.enter0 ai aj al) ?_
   rintro aG aH ⟨an,rfl,x,ao,ap⟩
   have aq:=(o.c0 x).t1
   obtain⟨H,C,ar⟩:=ob am
   obtain⟨aI,au,aw⟩:=RowAt.at (RowAt.mono x.le hrow37) C
   obtain⟨rfl,aJ,aK⟩:=au
   have aL: ∀(j:Nat) (d:Value),[sv H.Name,V6 H.Num][j]? =some d→cs36[c.1.toNat*tGAttr.size+j]? =some d:=aw
   refine lv (rv_indexRow (t:=tGAttr) underlying75 tf142 u u hm38 C) (wl_storeRow (t:=tGAttr) (v:=.agg #[sv s.Name,V6 s.Num]) (e:=s) wn tf142 u u ⟨u,ao,ap⟩ aq (RowAt.mono x.le hrow37) C fun cs74 aM hrow76 ax=>?_)
   have hm78:=hm38.trans (List.length_set (i:=c.1.toNat) (a:=s)).symm
   refine nb (qe_seq (wc_region (mv u (lv (rv_add u u) (av u (wl_nil ?_))))))
   cases oi ar
   exact qd ⟨_,u,cs74,an,u,ax,(q.trans x.le),(w64_rng _),hrow76,hm78⟩
  refine wc_exit (qe_then_exit (qe_then_exit ?_))
  cases oi B
  cases aa _ u
  refine qe_block_eq ?_
  cases oi X
  exact qd ⟨cs36,k,u,o,q,hrow37,hm38⟩
 rintro _ aN ⟨cs23,l,rfl,ay,aO,hrow24,hm25⟩
 refine qr (mv u (av u (nq (wc_ret ?_))))
 obtain⟨az,aP,I,J⟩:=SH.freeze ay hrow24 (row_max hm25 hmx13)
 rw [←hm25] at I J
 cases oi V
 exact ey results146 ⟨(some ⟨f,0,none⟩),m14,m14,az,u,J,I⟩

theorem ok_laws_toDoc {q0:GDoc}{r:GDoc}(hS:SH w K [] w K [])(G:rng64 q0.Id)(H:SliceAt tGField K A a b q0.Fields)(I:SliceAt tGAttr K B c d q0.Nums)(hm:M.laws_toDoc F q0=some r):
  Calls prog 71 #[.agg #[V6 q0.Id,V3 A a b,V3 B c d]] w fun e w'=>∃a_2 n_3 c_4 a_6 n_7 c_8 K',e= .returned (.agg #[V6 r.Id,V3 a_2 n_3 c_4,V3 a_6 n_7 c_8])∧SH w K [] w' K' [tail (V3 a_2 n_3 c_4) 108 2,tail (V3 a_6 n_7 c_8) 142 2]∧rng64 r.Id∧SliceAt tGField K' a_2 n_3 c_4 r.Fields∧SliceAt tGAttr K' a_6 n_7 c_8 r.Nums:=by
 rw [M.laws_toDoc] at hm
 refine ci func71 u ntmps71 (sr (bx u hS fun J ah O=>?_))
 have R:SH _ _ _ _ _ [obj J [V6 q0.Id,V3 A a b,V3 B c d] 102]:=O
 refine al tf77 R fun S ai T=>?_
 have U:SH _ _ _ _ _ [obj S [V6 0,V3 none 0 0,V3 none 0 0] 77,_]:=T
 refine nr (al tf77 U fun V aj W=>?_)
 have v:SH _ _ _ _ _ [obj V [V6 0,V3 none 0 0,V3 none 0 0] 77,_,_]:=W
 refine nr (fl ff102_0 u tf3 m2 v u (fa ff77_0 u (ls [V6 q0.Id,V3 none 0 0,V3 none 0 0] (V6 q0.Id) tf3 v fun ak q=>(nr (fl ff102_1 u tf99 m2 q u ?_)))))
 obtain⟨am,X,Y⟩:=ob hm
 refine lk co145 (ok_laws_toFieldS F q.enter0 H X) ?_
 rintro an ao ⟨f,i,k,ap,rfl,x,aa⟩
 have ab:=(q.c0 x).t4
 refine fa ff77_1 u (ls [V6 q0.Id,V3 f i k,V3 none 0 0] (V3 f i k) tf74 ab.f1 fun aq s=>(nr (fl ff102_2 u tf100 m3 s u ?_)))
 obtain⟨ar,ac,ad⟩:=ob Y
 refine lk co146 (ok_laws_toAttrS F s.enter0 (I.mono x.le) ac) ?_
 rintro au aw ⟨l,m,o,ae,rfl,y,af⟩
 have ag:=(s.c0 y).t5
 refine fa ff77_2 u (ls [V6 q0.Id,V3 f i k,V3 l m o] (V3 l m o) tf75 ag.f1 fun ax C=>(nr (lv (rv_loadmS (ds:=[V6 q0.Id,V3 f i k,V3 l m o]) tf77 u m0 C u u) (lw [V6 q0.Id,V3 f i k,V3 l m o] tf77 C.f3 fun ay D=>(nq (wc_ret ?_))))))
 cases oi ad
 exact ez results71 tf77 D m0 ⟨f,i,k,l,m,o,ae,u,D.f2.f3.s,G,(aa.mono y.le),af⟩

theorem ok_laws_toDocS {q0:List GDoc}{r:(List GDoc)}(hS:SH w K [] w K [])(x:SliceAt tGDoc K A a b q0)(hm:M.laws_toDocS F q0=some r):
  Calls prog 20 #[V3 A a b] w fun e w'=>∃a_1 n_2 c_3 K',e= .returned (V3 a_1 n_2 c_3)∧SH w K [] w' K' [tail (V3 a_1 n_2 c_3) 77 3]∧SliceAt tGDoc K' a_1 n_2 c_3 r:=by
 rw [M.laws_toDocS] at hm
 refine ci func20 u ntmps20 (sr (lv (r_n u) (nr (mv u (lv (rv_len underlying40 u x) ?_)))))
 obtain⟨U,V,W⟩:=ob hm
 refine wl_make (t:=tGDoc) wn u underlying43 tf77 u u u V ⟨none,0,0,none,0,0,u,d_0,(SliceAt.nil _ _),(SliceAt.nil _ _)⟩ hS fun f cs9 aU hmx13 hrow11 X=>?_
 obtain⟨m14,hm15⟩: ∃m,m=U.length:=⟨_,u⟩
 rw [←hm15] at hmx13
 rw [←hm15]
 refine av u (nsr (lv (r_0 u) (nq ?_)))
 obtain⟨D,Y,aa⟩:=ob W
 refine wc_cutg (fun E' w'=>∃cs23 l,E'=[(3,V3 (some ⟨f,0,none⟩) m14 m14)]∧SH w K [] w' l [obj f cs23 77]∧KLe K l∧RowAt true tGDoc l cs23 D∧m14=D.length) ?_ ?_
 ·refine wc_block ?_
  obtain⟨aV,ab,ac⟩:=ob Y
  refine qw (fun (c:Int×(List GDoc)) E' w'=>∃cs36 k,E'=[(0,V3 A a b),(3,V3 (some ⟨f,0,none⟩) m14 m14),(4,V6 c.1)]∧SH w K [] w' k [obj f cs36 77]∧KLe K k∧rng64 c.1∧RowAt true tGDoc k cs36 c.2∧m14=c.2.length) ab ⟨cs9,K,u,X,kr,d_0,hrow11,hm15⟩ ?_
  rintro c _ aW aX ad ae ⟨cs36,k,rfl,o,q,aY,hrow37,hm38⟩
  refine wc_seq (sr (mv u (mv u (lv (rv_len underlying40 u (x.mono q)) (lv (rv_lss u u) (nq (wcc ad u (fun af y=>?_) (fun af y=>?_))))))))
  ·refine wc_skip (qs (wc_block (wc_region (mv u (mv u (mv u (mv u ?_)))))))
   obtain⟨ag,ah,ai⟩:=ob y
   refine li underlying40 tf102 (x.mono q) ah fun aj ak aZ al am=>?_
   obtain⟨an,ao,ap,aq,ar,au,rfl,aw,ax,ay⟩:=al
   have az:AtK _ aj ak [V6 ag.Id,V3 an ao ap,V3 aq ar au]:=am
   refine lv (rv_loadS tf102 u o az u) ?_
   obtain⟨B,aA,aB⟩:=ob ai
   refine lk co71 (ok_laws_toDoc F o.enter0 aw ax ay aA) ?_
   rintro ba bb ⟨G,H,I,J,O,R,aC,rfl,s,aD,aE,aF⟩
   have aG:=(o.c0 s).t3
   obtain⟨aH,C,aI⟩:=ob aB
   obtain⟨bc,aJ,aK⟩:=RowAt.at (RowAt.mono s.le hrow37) C
   obtain⟨aL,aM,aN,aO,aP,aQ,rfl,bd,be,bf⟩:=aJ
   have bg: ∀(j:Nat) (d:Value),[V6 aH.Id,V3 aL aM aN,V3 aO aP aQ][j]? =some d→cs36[c.1.toNat*tGDoc.size+j]? =some d:=aK
   refine lv (rv_indexRow (t:=tGDoc) underlying43 tf77 u u hm38 C) (wl_storeRow (t:=tGDoc) (v:=.agg #[V6 B.Id,V3 G H I,V3 J O R]) (e:=B) wn tf77 u u ⟨G,H,I,J,O,R,u,aD,aE,aF⟩ aG.f2 (RowAt.mono s.le hrow37) C fun cs96 bh hrow98 aR=>?_)
   have hm100:=hm38.trans (List.length_set (i:=c.1.toNat) (a:=B)).symm
   refine nb (qe_seq (wc_region (mv u (lv (rv_add u u) (av u (wl_nil ?_))))))
   cases oi aI
   exact qd ⟨_,u,cs96,aC,u,aR.s,(q.trans s.le),(w64_rng _),hrow98,hm100⟩
  refine wc_exit (qe_then_exit (qe_then_exit ?_))
  cases oi y
  cases ae _ u
  refine qe_block_eq ?_
  cases oi ac
  exact qd ⟨cs36,k,u,o,q,hrow37,hm38⟩
 rintro _ bi ⟨cs23,l,rfl,aS,bj,hrow24,hm25⟩
 refine qr (mv u (av u (nq (wc_ret ?_))))
 obtain⟨aT,bk,S,T⟩:=SH.freeze aS hrow24 (row_max hm25 hmx13)
 rw [←hm25] at S T
 cases oi aa
 exact ey results20 ⟨(some ⟨f,0,none⟩),m14,m14,aT,u,T,S⟩
end Go.Proofs.YtpjefkdclnmlfaaGreat
