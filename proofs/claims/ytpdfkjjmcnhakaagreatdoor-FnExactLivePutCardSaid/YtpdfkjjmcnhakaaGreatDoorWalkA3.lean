/-
 Walks of the functions. Printed by gen.py.
-/
import Derived.Test.YtpdfkjjmcnhakaaGreatDoorWalkA1
import Derived.Test.YtpdfkjjmcnhakaaGreatDoorWalkA2
set_option linter.unusedVariables false
set_option linter.unusedSectionVars false
set_option maxRecDepth 100000
namespace Go.Proofs.YtpdfkjjmcnhakaaGreatDoor
set_option maxHeartbeats 4000000
open Go Go.Fk Go.RowKit Tryz
variable (F:Nat){w:World}{K:KMap}{Z:List Nat}{g1 g2 g3:Nat}{A B C D G H I J O R S T:Option Addr}{a b c d f i k l m n o p q s v x y aa ab ac ad ae af ag:Nat}
variable [dr:Dr]

theorem ok_spec_l18Put {q0:List GDoc}{q1:GDoc}{r:(List GDoc)}(hS:SH w K [] w K [])(m:SliceAt tGDoc K A a b q0)(ac:rng64 q1.Id)(ad:SliceAt tGField K B c d q1.Fields)(ae:SliceAt tGAttr K C f i q1.Nums)(hm:M.spec_l18Put F q0 q1=some r):
  Calls prog 117 #[V3 A a b,.agg #[V6 q1.Id,V3 B c d,V3 C f i]] w fun e w'=>∃a_1 n_2 c_3 K',e= .returned (V3 a_1 n_2 c_3)∧SH w K [] w' K' [tail (V3 a_1 n_2 c_3) 64 3]∧SliceAt tGDoc K' a_1 n_2 c_3 r:=by
 rw [M.spec_l18Put] at hm
 refine ci func117 u ntmps117 (sr (bx u hS fun l bC af=>?_))
 have ag:SH _ _ _ _ _ [obj l [V6 q1.Id,V3 B c d,V3 C f i] 64]:=af
 refine lv (r_n u) (nr (lv (r_0 u) (ns ?_)))
 obtain⟨W,ah,ai⟩:=ob hm
 refine wc_cutg (IW w K [] K [(0,V3 A a b),(3,pt l),(5,V6 W)] [obj l [V6 q1.Id,V3 B c d,V3 C f i] 64] (rng64 W)) ?_ ?_
 ·refine wc_block ?_
  obtain⟨bD,aj,ak⟩:=ob ah
  refine qw (fun (o:Int)=>IW w K [] K [(0,V3 A a b),(3,pt l),(5,V6 o)] [obj l [V6 q1.Id,V3 B c d,V3 C f i] 64] (rng64 o)) aj ⟨K,u,ag,kr,d_0⟩ ?_
  rintro o _ bE bF al am ⟨an,rfl,ao,q,ap⟩
  refine wc_seq (wc_seq ?_)
  obtain⟨aq,ar,au⟩:=ob al
  refine wc_cutg (IV w K [] an [(0,V3 A a b),(3,pt l),(5,V6 o),(20,.bool aq)] [obj l [V6 q1.Id,V3 B c d,V3 C f i] 64]) ?_ ?_
  ·refine wc_quiet mixed (by kernel_rfl) ao (km u (km u (kv (rv_len underlying40 u (m.mono q)) (kv (rv_lss u u) (km u (bt ar (fun k y=>?_) (fun k y=>?_)))))))
   ·refine kg k (rv_move u) (kg k (rv_move u) ?_)
    obtain⟨aw,ax,ay⟩:=ob y
    refine wq_indexAddr (t:=tGDoc) (wg u u k) u underlying40 tf64 u u (m.mono q) ax fun az aA bG aB aC=>?_
    obtain⟨aD,aE,aF,aG,aH,aI,rfl,bH,bI,bJ⟩:=aB
    have aJ:AtK _ az aA [V6 aw.Id,V3 aD aE aF,V3 aG aH aI]:=aC
    refine kg k (rv_fieldAddr ff64_0 u) (kgh k (rq_load1 tf3 u (aJ 0 _ u)) (kg k (rv_fieldAddr ff64_0 u) (kgh k (rq_loadm1 tf3 u m0 u) (kg k (rv_lss u u) (kv (rv_pick_t u k u) (wq_nil ?_))))))
    rintro bK ⟨aK,aL,aM⟩
    cases oi ay
    exact qd ⟨aK,u,aL,aM⟩
   iterate 8 refine kn k ?_
   refine kv (p_f u k u) (wq_nil ?_)
   rintro bL ⟨aN,aO,aP⟩
   cases oi y
   exact qd ⟨aN,u,aO,aP⟩
  rintro _ bM ⟨X,rfl,Y,aa⟩
  refine qe_seq (wcc au u (fun aQ D=>?_) (fun aQ D=>?_))
  ·refine wc_skip (qe_seq (wc_block (wc_region (mv u (lv (rv_add u u) (av u (nb ?_)))))))
   cases oi D
   exact qd ⟨_,u,X,u,Y,(q.trans aa),(w64_rng _)⟩
  refine wc_exit (qe_then_exit (qe_then_exit ?_))
  cases oi D
  cases am _ u
  refine qe_block_eq ?_
  cases oi ak
  exact qd ⟨X,u,Y,(q.trans aa),ap⟩
 rintro _ bN ⟨bO,rfl,aR,s,bP⟩
 refine qr (b0 tGDoc underlying40 tf64 aR fun bQ bR bS x aS aT=>(mv u (mv u ?_)))
 obtain⟨bT,aU,aV⟩:=ob ai
 refine wl_sl_h (t:=tGDoc) wn u underlying40 tf64 u u (m.mono (s.trans x)) aU fun bU bV bW aW=>?_
 obtain⟨bX,aX,aY⟩:=ob aV
 refine lp underlying40 tf64 aS aW aX aT fun bY bZ ca cb cc G aZ H=>(av u (nr (mv u (lv (rv_loadmS (ds:=[V6 q1.Id,V3 B c d,V3 C f i]) tf64 u m1 H u u) ?_))))
 obtain⟨I,ba,bb⟩:=ob aY
 refine lk co143 (ok_spec_l7CopyDoc F H.enter0 ac (ad.mono ((s.trans x).trans G)) (ae.mono ((s.trans x).trans G)) ba) ?_
 rintro cd ce ⟨J,O,R,S,T,U,cf,rfl,V,bc,bd,be⟩
 have bf:=(H.c0 V).t4
 refine lb tGDoc (.agg #[V6 I.Id,V3 J O R,V3 S T U]) [V6 I.Id,V3 J O R,V3 S T U] I underlying40 tf64 ⟨J,O,R,S,T,U,u,bc,bd,be⟩ bf fun cg ch cj ab bg bh=>?_
 obtain⟨ck,bi,bj⟩:=ob bb
 refine lp underlying40 tf64 (aZ.mono (V.le.trans ab)) bg bi bh.f3 fun cl cm cn cp cq bk bl bm=>(av u (nr (mv u (mv u (mv u ?_)))))
 obtain⟨cr,bn,bo⟩:=ob bj
 refine wl_sl_l (t:=tGDoc) wn u underlying40 tf64 u u (SliceAt.mono (((((s.trans x).trans G).trans V.le).trans ab).trans bk) m) bn fun cs ct cu bp=>?_
 obtain⟨cv,bq,br⟩:=ob bo
 refine lp underlying40 tf64 bl bp bq bm fun bs bu bv cw bz cx bA bB=>(av u (nq (wc_ret ?_)))
 cases oi br
 exact ey results117 ⟨bs,bu,bv,bz,u,bB.s,bA⟩

theorem ok_spec_l18Docs {q0:GIndex}{r:(List GDoc)}(hS:SH w K [] w K [])(cG:SliceAt tStr K A a b q0.Conf.Stops)(cH:SliceAt tGSyn K B c d q0.Conf.Syns)(aa:SliceAt tGLive K C f i q0.Segs)(hm:M.spec_l18Docs F q0=some r):
  Calls prog 68 #[.agg #[V3 A a b,V3 B c d,V3 C f i]] w fun e w'=>∃a_1 n_2 c_3 K',e= .returned (V3 a_1 n_2 c_3)∧SH w K [] w' K' [tail (V3 a_1 n_2 c_3) 64 3]∧SliceAt tGDoc K' a_1 n_2 c_3 r:=by
 rw [M.spec_l18Docs] at hm
 refine ci func68 u ntmps68 (sr (bx u hS fun l cI az=>?_))
 have aA:SH _ _ _ _ _ [obj l [V3 A a b,V3 B c d,V3 C f i] 74]:=az
 refine lv (r_n u) (nr (b0 tGDoc underlying40 tf64 aA fun aB cJ ae ab aC aD=>(av u (nsr (lv (r_0 u) (nq ?_))))))
 obtain⟨aE,aF,aG⟩:=ob hm
 refine wc_cutg (fun E' w'=>∃O R S T,E'=[(3,V3 O R S)]∧SH w K [] w' T [tail (V3 O R S) 64 3]∧KLe ae T∧SliceAt tGDoc T O R S aE) ?_ ?_
 ·refine wc_block ?_
  obtain⟨cK,aH,aI⟩:=ob aF
  refine qw (fun (o:(List GDoc)×Int) E' w'=>∃q s x k,E'=[(1,pt l),(3,V3 q s x),(4,V6 o.2)]∧SH w K [] w' k [obj l [V3 A a b,V3 B c d,V3 C f i] 74,tail (V3 q s x) 64 3]∧KLe ae k∧SliceAt tGDoc k q s x o.1∧rng64 o.2) aH ⟨aB,0,0,ae,u,aD.f1,kr,aC,d_0⟩ ?_
  rintro o _ cL cM aJ aK ⟨q,s,x,k,rfl,af,y,aw,cN⟩
  refine wc_seq (sr (mv u (fl ff74_1 u tf72 m0 af u (lv (rv_len underlying72 u (aa.mono (ab.trans y))) (lv (rv_lss u u) (nq (wcc aJ u (fun aL ag=>?_) (fun aL ag=>?_))))))))
  ·refine wc_skip (qs (wc_block (sr (lv (r_0 u) (nq ?_)))))
   obtain⟨aM,aN,aO⟩:=ob ag
   refine wc_cutg (fun E' w'=>∃U V W X,E'=[(1,pt l),(3,V3 U V W),(4,V6 o.2)]∧SH w K [] w' X [obj l [V3 A a b,V3 B c d,V3 C f i] 74,tail (V3 U V W) 64 3]∧KLe k X∧SliceAt tGDoc X U V W aM) ?_ ?_
   ·refine wc_block ?_
    obtain⟨cO,aP,aQ⟩:=ob aN
    refine qw (fun (ac:(List GDoc)×Int) E' w'=>∃D G H Y,E'=[(1,pt l),(3,V3 D G H),(4,V6 o.2),(5,V6 ac.2)]∧SH w K [] w' Y [obj l [V3 A a b,V3 B c d,V3 C f i] 74,tail (V3 D G H) 64 3]∧KLe k Y∧SliceAt tGDoc Y D G H ac.1∧rng64 ac.2) aP ⟨q,s,x,k,u,af,kr,aw,d_0⟩ ?_
    rintro ac _ cP cQ aR aS ⟨D,G,H,Y,rfl,m,I,ah,cR⟩
    refine wc_seq (sr (mv u (fl ff74_1 u tf72 m0 m u (mv u ?_))))
    obtain⟨cS,aT,aU⟩:=ob aR
    refine li underlying72 tf45 (aa.mono ((ab.trans y).trans I)) aT fun aV aW cT aX aY=>?_
    obtain⟨aZ,ba,bb,bc,bd,be,bf,bg,bh,rfl,bi,cU,cV⟩:=aX
    have bj:AtK _ aV aW [V3 aZ ba bb,V3 bc bd be,V3 bf bg bh]:=aY
    refine fa ff45_0 u (fa ff43_0 u (lv (rv_load1 tf40 u m (bj 0 _ u)) (lv (rv_len underlying40 u bi) (lv (rv_lss u u) (nq (wcc aU u (fun bk ai=>?_) (fun bk ai=>?_)))))))
    ·refine wc_skip (qs (wc_block (sr (fl ff74_1 u tf72 m0 m u (mv u ?_)))))
     obtain⟨cW,bl,bm⟩:=ob ai
     refine li underlying72 tf45 (aa.mono ((ab.trans y).trans I)) bl fun bn bo cX bp bq=>?_
     obtain⟨br,bs,bu,bv,bz,bA,bB,bC,bD,rfl,bE,cY,cZ⟩:=bp
     have bF:AtK _ bn bo [V3 br bs bu,V3 bv bz bA,V3 bB bC bD]:=bq
     refine fa ff45_0 u (fa ff43_0 u (lv (rv_load1 tf40 u m (bF 0 _ u)) (mv u ?_)))
     obtain⟨aj,bG,bH⟩:=ob bm
     refine li underlying40 tf64 bE bG fun bI bJ da bK bL=>?_
     obtain⟨ak,am,an,ao,ap,aq,rfl,ax,bM,bN⟩:=bK
     have bO:AtK _ bI bJ [V6 aj.Id,V3 ak am an,V3 ao ap aq]:=bL
     refine lv (rv_loadS tf64 u m bO u) (al tf64 m fun bP db bQ=>?_)
     have bR:SH _ _ _ _ _ [obj bP [V6 0,V3 none 0 0,V3 none 0 0] 64,_,_]:=bQ
     refine lw [V6 aj.Id,V3 ak am an,V3 ao ap aq] tf64 bR fun dc bS=>(ns (wc_quiet mixed (by kernel_rfl) bS (kv (rv_fieldAddr ff74_1 u) (kh (rq_loadm1 tf72 u m1 u) (km u ?_)))))
     obtain⟨dd,bT,bU⟩:=ob bH
     refine ki underlying72 tf45 (aa.mono ((ab.trans y).trans I)) bT fun bV bW de bX bY=>?_
     obtain⟨bZ,ca,cb,cc,cd,ce,cf,cg,ch,rfl,cj,ck,cl⟩:=bX
     have cm:AtK _ bV bW [V3 bZ ca cb,V3 cc cd ce,V3 cf cg ch]:=bY
     refine kh (rq_loadS tf45 u cm u) (kv (rv_fieldAddr ff64_0 u) (kh (rq_loadm1 tf3 u m0 u) ?_))
     obtain⟨df,cn,cp⟩:=ob bU
     refine kc co116 (fun _ _ cq ar=>(ok_spec_l18Dead F) cq.enter0 (cj.mono ar) (ck.mono ar) (cl.mono ar) ax cn) (kv (rv_not u) (wq_nil ?_))
     rintro dg ⟨cr,ad,J⟩
     refine qe_seq (wcc cp u (fun cs au=>?_) (fun cs au=>?_))
     ·refine wc_region (mv u (lv (rv_loadmS (ds:=[V6 aj.Id,V3 ak am an,V3 ao ap aq]) tf64 u m0 ad u u) ?_))
      obtain⟨dh,ct,cu⟩:=ob au
      refine lk co117 (ok_spec_l18Put F ad.enter0 (ah.mono J) ax (bM.mono J) (bN.mono J) ct) ?_
      rintro di dj ⟨cv,cw,cx,cy,rfl,ay,cz⟩
      have cA:=(ad.c0 ay).t4
      refine av u (nb (qe_seq (wc_region (mv u (lv (rv_add u u) (av u (wl_nil ?_)))))))
      cases oi cu
      exact qd ⟨_,u,cv,cw,cx,cy,u,cA.f2.s,((I.trans J).trans ay.le),cz,(w64_rng _)⟩
     refine wc_skip (qe_block (qe_seq (wc_region (mv u (lv (rv_add u u) (av u (wl_nil ?_)))))))
     cases oi au
     exact qd ⟨_,u,D,G,H,cr,u,ad.s,(I.trans J),(ah.mono J),(w64_rng _)⟩
    refine wc_exit (qe_then_exit (qe_then_exit ?_))
    cases oi ai
    cases aS _ u
    refine qe_block_eq ?_
    cases oi aQ
    exact qd ⟨D,G,H,Y,u,m,I,ah⟩
   rintro _ dk ⟨U,V,W,X,rfl,cB,cC,cD⟩
   refine qe_block (qe_seq (wc_region (mv u (lv (rv_add u u) (av u (wl_nil ?_))))))
   cases oi aO
   exact qd ⟨_,u,U,V,W,X,u,cB,(y.trans cC),cD,(w64_rng _)⟩
  refine wc_exit (qe_then_exit (qe_then_exit ?_))
  cases oi ag
  cases aK _ u
  refine qe_block_eq ?_
  cases oi aI
  exact qd ⟨q,s,x,k,u,af.s,y,aw⟩
 rintro _ dl ⟨O,R,S,T,rfl,cE,dm,cF⟩
 refine qr (mv u (av u (nq (wc_ret ?_))))
 cases oi aG
 exact ey results68 ⟨O,R,S,T,u,cE,cF⟩

theorem ok_spec_l18Ok {q0:GIndex}{r:Bool}(hS:SH w K [] w K [])(ao:SliceAt tStr K A a b q0.Conf.Stops)(ap:SliceAt tGSyn K B c d q0.Conf.Syns)(ae:SliceAt tGLive K C f i q0.Segs)(hm:M.spec_l18Ok F q0=some r):
  Calls prog 26 #[.agg #[V3 A a b,V3 B c d,V3 C f i]] w (R_b w K r):=by
 rw [M.spec_l18Ok] at hm
 refine ci func26 u ntmps26 (sr (bx u hS fun l cd aS=>?_))
 have aT:SH _ _ _ _ _ [obj l [V3 A a b,V3 B c d,V3 C f i] 74]:=aS
 refine lv (r_f u) (nsr (lv (r_0 u) (nq ?_)))
 obtain⟨aU,aV,Y⟩:=ob hm
 refine wc_cutg (IE aU w K [] K [(1,pt l)] [obj l [V3 A a b,V3 B c d,V3 C f i] 74]) ?_ ?_
 ·refine wc_block ?_
  obtain⟨ce,aW,aq⟩:=ob aV
  refine qw (fun (J:Int)=>IW w K [] K [(1,pt l),(3,V6 J)] [obj l [V3 A a b,V3 B c d,V3 C f i] 74] (rng64 J)) aW ⟨K,u,aT,kr,d_0⟩ ?_
  rintro J _ cf cg aX ar ⟨aI,rfl,aa,O,ch⟩
  refine wc_seq (sr (mv u (fl ff74_1 u tf72 m0 aa u (lv (rv_len underlying72 u (ae.mono O)) (lv (rv_lss u u) (nq (wcc aX u (fun aY au=>?_) (fun aY au=>?_))))))))
  ·refine wc_skip (qs (wc_block (sr (fl ff74_1 u tf72 m0 aa u (mv u ?_)))))
   obtain⟨cj,aZ,ba⟩:=ob au
   refine li underlying72 tf45 (ae.mono O) aZ fun bb bc ck bd be=>?_
   obtain⟨s,x,y,D,G,H,R,S,T,rfl,aw,aJ,af⟩:=bd
   have bf:AtK _ bb bc [V3 s x y,V3 D G H,V3 R S T]:=be
   refine lv (rv_loadS tf45 u aa bf u) (al tf45 aa fun U cl bg=>?_)
   have bh:SH _ _ _ _ _ [obj U [V3 none 0 0,V3 none 0 0,V3 none 0 0] 45,_]:=bg
   refine lw [V3 s x y,V3 D G H,V3 R S T] tf45 bh fun cm ag=>(ns (wc_seq ?_))
   obtain⟨bi,bj,bk⟩:=ob ba
   refine wc_cutg (IV w K [] aI [(1,pt l),(3,V6 J),(4,pt U),(39,.bool bi)] [obj l [V3 A a b,V3 B c d,V3 C f i] 74,obj U [V3 s x y,V3 D G H,V3 R S T] 45]) ?_ ?_
   ·refine wc_region (fa ff74_0 u (lv (rv_loadmS (ds:=[V3 A a b,V3 B c d]) tf38 u m1 ag u u) (fa ff45_0 u (lv (rv_loadmS (ds:=[V3 s x y,V3 D G H]) tf43 u m0 ag u u) ?_))))
    obtain⟨cn,bl,bm⟩:=ob bj
    refine lk co50 (ok_spec_l7Ok F ag.enter0 (ao.mono O) (ap.mono O) aw aJ bl) ?_
    rintro cp cq ⟨bn,rfl,I⟩
    have ah:=(ag.c0 I).t2
    refine lv (rv_not u) (mv u (bt bm (fun m ax=>?_) (fun m ax=>?_)))
    ·refine lu m (lu m (lu m (lu m (lv (p_t u m u) (mv u ?_)))))
     iterate 8 refine lu u ?_
     refine lv (p_t u u u) (wl_nil ?_)
     cases oi ax
     exact qd ⟨bn,u,ah.f1,I.le⟩
    refine lg m (rv_fieldAddr ff45_1 u) (lg m (rv_loadm1 tf30 u m0 ah u) ?_)
    obtain⟨cr,bo,bp⟩:=ob ax
    refine wl_call (wg u u m) u (rt_call (vs:=[V3 R S T]) co64 u) (ok_spec_l3Up F ah.enter0 (af.mono I.le) bo) ?_
    rintro cs ct ⟨aK,rfl,ab⟩
    refine⟨_,u,?_⟩
    have ai:=(ah.c0 ab).t2
    refine lg m (rv_not u) (lv (rv_pick_f u m u) (mv u (bt bp (fun k ay=>?_) (fun k ay=>?_))))
    ·iterate 8 refine lu k ?_
     refine lv (p_t u k u) (wl_nil ?_)
     cases oi ay
     exact qd ⟨aK,u,ai.f1,(I.le.trans ab.le)⟩
    refine lg k (rv_fieldAddr ff45_1 u) (lg k (rv_loadm1 tf30 u m0 ai u) (lg k (rv_len underlying30 u (af.mono (I.le.trans ab.le))) (lg k (rv_fieldAddr ff45_0 u) (lg k (rv_fieldAddr ff43_0 u) (lg k (rv_loadm1 tf40 u m0 ai u) (lg k (rv_len underlying40 u (aw.mono (I.le.trans ab.le))) (lg k (rv_geq u u) (lv (rv_pick_f u k u) (wl_nil ?_)))))))))
    cases oi ay
    exact qd ⟨aK,u,ai.f1,(I.le.trans ab.le)⟩
   rintro _ cu ⟨aj,rfl,aL,ac⟩
   refine qe_seq (wcc bk u (fun bq az=>?_) (fun bq az=>?_))
   ·refine sr (lv (r_f u) (nq (rr (qe_block_ret (qe_then_ret (qe_then_ret ?_))))))
    cases oi az
    cases ar _ u
    refine qe_block_ret (qe_then_ret ?_)
    cases oi aq
    refine qe_then_ret ?_
    cases oi Y
    exact ey results26 ⟨aj,u,aL.s⟩
   refine wc_skip (qr (lv (r_0 u) (nq ?_)))
   obtain⟨br,bs,ak⟩:=ob az
   refine wc_cutg (IE br w K [] aj [(1,pt l),(3,V6 J)] [obj l [V3 A a b,V3 B c d,V3 C f i] 74]) ?_ ?_
   ·refine wc_block ?_
    obtain⟨cv,bu,aM⟩:=ob bs
    refine qw (fun (aA:Int)=>IW w K [] aj [(1,pt l),(3,V6 J),(4,pt U),(5,V6 aA)] [obj l [V3 A a b,V3 B c d,V3 C f i] 74,obj U [V3 s x y,V3 D G H,V3 R S T] 45] (rng64 aA)) bu ⟨aj,u,aL,kr,d_0⟩ ?_
    rintro aA _ cw cx bv aN ⟨aO,rfl,aB,V,cy⟩
    refine wc_seq (sr (mv u (fl ff45_1 u tf30 m1 aB u (lv (rv_len underlying30 u (af.mono (ac.trans V))) (lv (rv_lss u u) (nq (wcc bv u (fun bz aC=>?_) (fun bz aC=>?_))))))))
    ·refine wc_skip (qs (wc_block (wc_seq ?_)))
     have am:=aB.drew
     refine wh1 (fun w'=>Holds aO w'∧HasObj U [V3 s x y,V3 D G H,V3 R S T] w') (fun w'=>True) 10 [] mixed ⟨am.hasK kr,am.hasObj m1⟩ (fun _=>trivial) (gt (rv_fieldAddr ff45_0 u) (gh (fun _ h=>rh_loadmS (ds:=[V3 s x y,V3 D G H]) tf43 u u u h.2) (gt (rv_fieldAddr ff45_1 u) (gh (fun _ h=>rh_loadm1 tf30 u u h.2) (gt (rv_move u) ?_)))))
     obtain⟨bA,bB,bC⟩:=ob aC
     refine gi underlying30 tf3 (af.mono (ac.trans V)) bB fun bD bE cz bF bG=>?_
     obtain⟨rfl,bH⟩:=bF
     have bI:AtK _ bD bE [V6 bA]:=bG
     refine gh (fun _ h=>rh_load1 tf3 u (bI 0 _ u) h.1) (gn ?_)
     obtain⟨cA,bJ,bK⟩:=ob bC
     refine lk co65 (ok_spec_l12Doc F am.enter0 (aw.mono (ac.trans V)) (aJ.mono (ac.trans V)) bH bJ) ?_
     rintro cB cC ⟨cD,cE,cF,cG,cH,cI,aP,rfl,aD,cJ,cK,cL⟩
     have an:=(am.c0 aD).t2
     refine wl_nil (qh ⟨an.hasK aD.le,an.hasObj m1⟩ (fun _=>trivial) (gt (rv_field fg64_0 tf3 u (.inl ⟨u,u⟩)) (gt (rv_eql u u) (gd' (qe_seq (wcc bK u (fun bL aE=>?_) (fun bL aE=>?_)))))))
     ·refine sr (lv (r_f u) (nq (wc_ret (qe_block_ret (qe_then_ret (qe_then_ret ?_))))))
      cases oi aE
      cases aN _ u
      refine qe_block_ret (qe_then_ret ?_)
      cases oi aM
      refine qe_block_ret (qe_then_ret (qe_then_ret ?_))
      cases oi ak
      cases ar _ u
      refine qe_block_ret (qe_then_ret ?_)
      cases oi aq
      refine qe_then_ret ?_
      cases oi Y
      exact ey results26 ⟨aP,u,an.s⟩
     refine wc_skip (qe_block (qe_seq (wc_region (mv u (lv (rv_add u u) (av u (wl_nil ?_)))))))
     cases oi aE
     exact qd ⟨_,u,aP,u,an,(V.trans aD.le),(w64_rng _)⟩
    refine wc_exit (qe_then_exit (qe_then_exit ?_))
    cases oi aC
    cases aN _ u
    refine qe_block_eq ?_
    cases oi aM
    exact qd ⟨_,aO,u,u,aB.s,V⟩
   rintro _ cM ⟨cN,bM,rfl,rfl,bN,bO⟩
   have ak:=elim_l ak
   refine qe_block (qe_seq (wc_region (mv u (lv (rv_add u u) (av u (wl_nil ?_))))))
   cases oi ak
   exact qd ⟨_,u,bM,u,bN,((O.trans ac).trans bO),(w64_rng _)⟩
  refine wc_exit (qe_then_exit (qe_then_exit ?_))
  cases oi au
  cases ar _ u
  refine qe_block_eq ?_
  cases oi aq
  exact qd ⟨_,aI,u,u,aa,O⟩
 rintro _ cO ⟨cP,cQ,rfl,rfl,aF,W⟩
 have Y:=elim_l Y
 refine qr (fa ff74_0 u (lv (rv_loadmS (ds:=[V3 A a b,V3 B c d]) tf38 u m0 aF u u) ?_))
 obtain⟨cR,bP,bQ⟩:=ob Y
 refine lk co66 (ok_spec_l2Ok F aF.enter0 (ao.mono W) (ap.mono W) bP) ?_
 rintro cS cT ⟨aQ,rfl,ad⟩
 have X:=(aF.c0 ad).t1
 refine mv u (bt bQ (fun o aG=>?_) (fun o aG=>?_))
 ·refine lg o (rv_fieldAddr ff74_1 u) (lg o (rv_loadm1 tf72 u m0 X u) (lg o (rv_len underlying72 u (ae.mono (W.trans ad.le))) (lg o (rv_leq u u) (lv (rv_pick_t u o u) (mv u (bt aG (fun q aH=>?_) (fun q aH=>?_)))))))
  ·refine lg q (rv_loadmS (ds:=[V3 A a b,V3 B c d,V3 C f i]) tf74 u m0 X u u) ?_
   obtain⟨cU,bR,bS⟩:=ob aH
   refine wl_call (wg u u q) u (rt_call (vs:=[.agg #[V3 A a b,V3 B c d,V3 C f i]]) co68 u) (ok_spec_l18Docs F X.enter0 (ao.mono (W.trans ad.le)) (ap.mono (W.trans ad.le)) (ae.mono (W.trans ad.le)) bR) ?_
   rintro cV cW ⟨bT,bU,bV,cX,rfl,bW,bX⟩
   refine⟨_,u,?_⟩
   have aR:=(X.c0 bW).t2
   obtain⟨cY,bY,bZ⟩:=ob bS
   refine wl_call (wg u u q) u (rt_call (vs:=[V3 bT bU bV]) co67 u) (ok_spec_l6Docs F aR.enter0 bX bY) ?_
   rintro cZ da ⟨ca,rfl,cb⟩
   refine⟨_,u,?_⟩
   have cc:=(aR.c0 cb).t2
   refine lv (rv_pick_t u q u) (av u (nq (wc_ret ?_)))
   cases oi bZ
   exact ey results26 ⟨ca,u,cc.s⟩
  refine lu q (lu q (lu q (lv (p_f u q u) (av u (nq (wc_ret ?_))))))
  cases oi aH
  exact ey results26 ⟨aQ,u,X.s⟩
 refine lu o (lu o (lu o (lu o (lv (p_f u o u) (mv u (lu u (lu u (lu u (lv (p_f u u u) ?_)))))))))
 refine av u (nq (wc_ret ?_))
 cases oi aG
 exact ey results26 ⟨aQ,u,X.s⟩

theorem ok_spec_l1Dec (F:Nat): ∀{w:World} {K:KMap} {q0:Int} {r:Str} (hS:SH w K [] w K []) (T:rng64 q0) (hm:M.spec_l1Dec F q0=some r),
  Calls prog 70 #[V6 q0] w fun e w'=>∃K',e= .returned (sv r)∧SH w K [] w' K' []∧r.length≤maxLen:=by
 induction F with
 | zero=>intros;rename_i hm;rw [M.spec_l1Dec] at hm;cases hm
 | succ F ih=>
  intro w K q0 r hS T hm
  rw [M.spec_l1Dec] at hm
  refine ci func70 u ntmps70 (sr (lv (r_s u) (nsr (mv u (lv (rv_lss u u) (nq (wc_cond u (fun q=>?_) (fun q=>?_))))))))
  ·have x:=cond_t q hm
   refine sr (lv (rv_assign (v:=sv [45,57,50,50,51,51,55,50,48,51,54,56,53,52,55,55,53,56,48,56]) u) (nq (rr ?_)))
   cases oi x
   exact ey results70 ⟨K,u,hS,(by decide :([45,57,50,50,51,51,55,50,48,51,54,56,53,52,55,55,53,56,48,56]:Str).length≤maxLen)⟩
  have x:=cond_f q hm
  refine wc_skip (qs (sr (mv u (lv (rv_lss u u) (nq (wcc x u (fun U y=>?_) (fun U y=>?_)))))))
  ·refine sr (mv u (lv (rv_neg u) ?_))
   obtain⟨r6,V,W⟩:=ob y
   refine lk co70 (ih hS.enter0 (w64_rng _) V) ?_
   rintro an ao ⟨X,rfl,Y,ap⟩
   have aa:=(hS.c0 Y).t0
   obtain⟨aq,D,ab⟩:=ob W
   refine lv (rv_sadd (s:=([45]:Str)) u u D) (av u (nq (rr ?_)))
   cases oi ab
   exact ey results70 ⟨X,u,aa,(len_cat D)⟩
  refine wc_skip (qs (sr (mv u (lv (rv_lss u u) (nq (wcc y u (fun ac A=>?_) (fun ac A=>?_)))))))
  ·refine sr (mv u (lv (rv_add u u) (lv (rv_i2b underlying3 underlying5 u) (lb tU8 (iv8 (byteOfI (w64 ((48:Int)+q0)))) [iv8 (byteOfI (w64 ((48:Int)+q0)))] (byteOfI (w64 ((48:Int)+q0))) underlying50 tf5 u hS fun ar au ad aw G H=>(lv (rv_b2s underlying50 underlying5 underlying9 u G H) (av u (nq (rr ?_))))))))
   cases oi A
   exact ey results70 ⟨ad,u,H.s,(SliceAt.max G)⟩
  refine wc_skip (qs ?_)
  obtain⟨ax,f,ae⟩:=ob A
  obtain⟨b,af,ag⟩:=ob ae
  obtain⟨ay,B,ah⟩:=ob ag
  obtain⟨az,c,C⟩:=ob ah
  have i:=hS.drew
  refine wj0 (fun w'=>Holds K w') (fun w'=>True) 11 [] mixed (i.hasK kr) (fun _=>trivial) (jv 0 u (rv_move u) (jv 1 u (rv_quo u u f) (jv 3 u (rv_move u) (jv 4 u (rv_rem u u af) (jv 5 u (rv_add u u) (jv 6 u (rv_i2b underlying3 underlying5 u) (j2 2 7 u u ?_ ?_)))))))
  ·refine lk co70 (ih i.enter0 (rng_quo f) B) ?_
   rintro aA aB ⟨aC,rfl,k,aD⟩
   have I:=(i.c0 k).t0
   refine jn (I.hasK k.le) (fun _=>trivial) (j1 7 u (lb tU8 (iv8 (byteOfI (w64 ((48:Int)+b)))) [iv8 (byteOfI (w64 ((48:Int)+b)))] (byteOfI (w64 ((48:Int)+b))) underlying50 tf5 u I fun aE aF ai J aj l=>(jn (l.hasK (k.le.trans J)) (fun _=>trivial) (j1 8 u (lv (rv_b2s underlying50 underlying5 underlying9 u aj l) (jn (l.hasK (k.le.trans J)) (fun _=>trivial) (jv 9 u (rv_sadd u u c) (jv 10 u (rv_assign u) (jd ?_)))))))))
   refine qe_seq (wc_ret ?_)
   cases oi C
   exact ey results70 ⟨ai,u,l.s,(len_cat c)⟩
  refine lb tU8 (iv8 (byteOfI (w64 ((48:Int)+b)))) [iv8 (byteOfI (w64 ((48:Int)+b)))] (byteOfI (w64 ((48:Int)+b))) underlying50 tf5 u i fun aG aH aI d O a=>(jn (a.hasK d) (fun _=>trivial) (j2 2 8 u u ?_ ?_))
  ·refine lk co70 (ih a.enter0 (rng_quo f) B) ?_
   rintro aJ aK ⟨ak,rfl,m,aL⟩
   have o:=(a.c0 m).t1
   refine jn (o.hasK (d.trans m.le)) (fun _=>trivial) (j1 8 u (lv (rv_b2s underlying50 underlying5 underlying9 u (O.mono m.le) o) (jn (o.hasK (d.trans m.le)) (fun _=>trivial) (jv 9 u (rv_sadd u u c) (jv 10 u (rv_assign u) (jd (qe_seq (wc_ret ?_))))))))
   cases oi C
   exact ey results70 ⟨ak,u,o.s,(len_cat c)⟩
  refine lv (rv_b2s underlying50 underlying5 underlying9 u O a) (jn (a.hasK d) (fun _=>trivial) (j1 2 u (lk co70 (ih a.enter0 (rng_quo f) B) ?_)))
  rintro aM aN ⟨al,rfl,R,aO⟩
  have S:=(a.c0 R).t1
  refine jn (S.hasK (d.trans R.le)) (fun _=>trivial) (jv 9 u (rv_sadd u u c) (jv 10 u (rv_assign u) (jd (qe_seq (wc_ret ?_)))))
  cases oi C
  exact ey results70 ⟨al,u,S.s,(len_cat c)⟩

theorem ok_spec_l6Put {q0:GDoc}{r:Str}(hS:SH w K [] w K [])(ad:rng64 q0.Id)(x:SliceAt tGField K A a b q0.Fields)(y:SliceAt tGAttr K B c d q0.Nums)(hm:M.spec_l6Put F q0=some r):
  Calls prog 69 #[.agg #[V6 q0.Id,V3 A a b,V3 B c d]] w fun e w'=>∃K',e= .returned (sv r)∧SH w K [] w' K' []∧r.length≤maxLen:=by
 rw [M.spec_l6Put] at hm
 refine ci func69 u ntmps69 (sr (bx u hS fun f bR ae=>?_))
 have C:SH _ _ _ _ _ [obj f [V6 q0.Id,V3 A a b,V3 B c d] 64]:=ae
 refine lv (r_s u) (nr (fl ff64_0 u tf3 m0 C u ?_))
 obtain⟨bS,af,ag⟩:=ob hm
 refine lk co70 (ok_spec_l1Dec F C.enter0 ad af) ?_
 rintro bT bU ⟨D,rfl,i,bV⟩
 have ah:=(C.c0 i).t1
 obtain⟨bW,ai,aj⟩:=ob ag
 refine lv (rv_sadd (s:=([100,111,99,32]:Str)) u u ai) ?_
 obtain⟨bX,R,ak⟩:=ob aj
 refine lv (rv_sadd (r:=([10]:Str)) u u R) (av u (nsr (lv (r_0 u) (nq ?_))))
 obtain⟨S,al,am⟩:=ob ak
 refine wc_cutg (IW w K [] D [(1,pt f),(3,sv S)] [obj f [V6 q0.Id,V3 A a b,V3 B c d] 64] (S.length≤maxLen)) ?_ ?_
 ·refine wc_block ?_
  obtain⟨bY,an,ao⟩:=ob al
  refine qw (fun (k:Str×Int)=>IW w K [] D [(1,pt f),(3,sv k.1),(4,V6 k.2)] [obj f [V6 q0.Id,V3 A a b,V3 B c d] 64] (k.1.length≤maxLen∧rng64 k.2)) an ⟨D,u,ah,kr,(len_cat R),d_0⟩ ?_
  rintro k _ bZ ca ap aq ⟨ar,rfl,G,l,au,cb⟩
  refine wc_seq (sr (mv u (fl ff64_1 u tf61 m0 G u (lv (rv_len underlying61 u (x.mono (i.le.trans l))) (lv (rv_lss u u) (nq (wcc ap u (fun aw H=>?_) (fun aw H=>?_))))))))
  ·refine wc_skip (qs (wc_block (wc_quiet mixed (by kernel_rfl) G (km u ?_))))
   obtain⟨cc,ax,ay⟩:=ob H
   refine kv (rv_sadd (r:=([102,105,101,108,100,32]:Str)) u u ax) (kv (rv_fieldAddr ff64_1 u) (kh (rq_loadm1 tf61 u m0 u) (km u ?_)))
   obtain⟨T,az,aA⟩:=ob ay
   refine ki underlying61 tf118 (x.mono (i.le.trans l)) az fun aB aC cd aD aE=>?_
   obtain⟨rfl,ce,cf⟩:=aD
   have aF:AtK _ aB aC [sv T.Name,sv T.Text]:=aE
   refine kv (rv_fieldAddr ff118_0 u) (kh (rq_load1 tf9 u (aF 0 _ u)) ?_)
   obtain⟨cg,aG,aH⟩:=ob aA
   refine kv (rv_sadd u u aG) ?_
   obtain⟨ch,aI,aJ⟩:=ob aH
   refine kv (rv_sadd (r:=([32]:Str)) u u aI) (kv (rv_fieldAddr ff64_1 u) (kh (rq_loadm1 tf61 u m0 u) (km u ?_)))
   obtain⟨U,aK,aL⟩:=ob aJ
   refine ki underlying61 tf118 (x.mono (i.le.trans l)) aK fun aM aN cj aO aP=>?_
   obtain⟨rfl,ck,cl⟩:=aO
   have aQ:AtK _ aM aN [sv U.Name,sv U.Text]:=aP
   refine kv (rv_fieldAddr ff118_1 u) (kh (rq_load1 tf9 u (aQ 1 _ u)) ?_)
   obtain⟨cm,aR,aS⟩:=ob aL
   refine kv (rv_sadd u u aR) ?_
   obtain⟨cn,V,aT⟩:=ob aS
   refine kv (rv_sadd (r:=([10]:Str)) u u V) (kv (rv_assign u) (wq_nil ?_))
   rintro cp ⟨aU,aV,aW⟩
   refine qe_block (qe_seq (wc_region (mv u (lv (rv_add u u) (av u (wl_nil ?_))))))
   cases oi aT
   exact qd ⟨_,u,aU,u,aV,(l.trans aW),(len_cat V),(w64_rng _)⟩
  refine wc_exit (qe_then_exit (qe_then_exit ?_))
  cases oi H
  cases aq _ u
  refine qe_block_eq ?_
  cases oi ao
  exact qd ⟨ar,u,G,l,au⟩
 rintro _ cq ⟨I,rfl,aX,J,aY⟩
 refine qs (sr (lv (r_0 u) (nq ?_)))
 obtain⟨W,aZ,ba⟩:=ob am
 refine wc_cutg (IW w K [] I [(3,sv W)] [] (W.length≤maxLen)) ?_ ?_
 ·refine wc_block ?_
  obtain⟨cr,bb,bc⟩:=ob aZ
  refine qw (fun (m:Str×Int)=>IW w K [] I [(1,pt f),(3,sv m.1),(5,V6 m.2)] [obj f [V6 q0.Id,V3 A a b,V3 B c d] 64] (m.1.length≤maxLen∧rng64 m.2)) bb ⟨I,u,aX,kr,aY,d_0⟩ ?_
  rintro m _ cs ct bd be ⟨bf,rfl,q,o,bg,cu⟩
  refine wc_seq (sr (mv u (fl ff64_2 u tf62 m0 q u (lv (rv_len underlying62 u (y.mono ((i.le.trans J).trans o))) (lv (rv_lss u u) (nq (wcc bd u (fun bh O=>?_) (fun bh O=>?_))))))))
  ·refine wc_skip (qs (wc_block (wc_quiet mixed (by kernel_rfl) q (km u ?_))))
   obtain⟨cv,bi,bj⟩:=ob O
   refine kv (rv_sadd (r:=([110,117,109,32]:Str)) u u bi) (kv (rv_fieldAddr ff64_2 u) (kh (rq_loadm1 tf62 u m0 u) (km u ?_)))
   obtain⟨X,bk,bl⟩:=ob bj
   refine ki underlying62 tf135 (y.mono ((i.le.trans J).trans o)) bk fun bm bn cw bo bp=>?_
   obtain⟨rfl,cx,cy⟩:=bo
   have bq:AtK _ bm bn [sv X.Name,V6 X.Num]:=bp
   refine kv (rv_fieldAddr ff135_0 u) (kh (rq_load1 tf9 u (bq 0 _ u)) ?_)
   obtain⟨cz,br,bs⟩:=ob bl
   refine kv (rv_sadd u u br) ?_
   obtain⟨cA,bu,bv⟩:=ob bs
   refine kv (rv_sadd (r:=([32]:Str)) u u bu) (kv (rv_fieldAddr ff64_2 u) (kh (rq_loadm1 tf62 u m0 u) (km u ?_)))
   obtain⟨Y,bz,bA⟩:=ob bv
   refine ki underlying62 tf135 (y.mono ((i.le.trans J).trans o)) bz fun bB bC cB bD bE=>?_
   obtain⟨rfl,cC,aa⟩:=bD
   have bF:AtK _ bB bC [sv Y.Name,V6 Y.Num]:=bE
   refine kv (rv_fieldAddr ff135_1 u) (kh (rq_load1 tf3 u (bF 1 _ u)) ?_)
   obtain⟨cD,ab,bG⟩:=ob bA
   refine kd co70 (fun _ _ bH cE=>(ok_spec_l1Dec F) bH.enter0 aa ab) ?_
   obtain⟨_,_,_,⟨_,_,_,cF⟩,_⟩:=(ok_spec_l1Dec F) q.enter0 aa ab []
   obtain⟨cG,bI,bJ⟩:=ob bG
   refine kv (rv_sadd u u bI) ?_
   obtain⟨cH,ac,bK⟩:=ob bJ
   refine kv (rv_sadd (r:=([10]:Str)) u u ac) (kv (rv_assign u) (wq_nil ?_))
   rintro cI ⟨bL,bM,bN⟩
   refine qe_block (qe_seq (wc_region (mv u (lv (rv_add u u) (av u (wl_nil ?_))))))
   cases oi bK
   exact qd ⟨_,u,bL,u,bM,(o.trans bN),(len_cat ac),(w64_rng _)⟩
  refine wc_exit (qe_then_exit (qe_then_exit ?_))
  cases oi O
  cases be _ u
  refine qe_block_eq ?_
  cases oi bc
  exact qd ⟨bf,u,q.s,o,bg⟩
 rintro _ cJ ⟨bO,rfl,bP,cK,bQ⟩
 refine qr (mv u (av u (nq (wc_ret ?_))))
 cases oi ba
 exact ey results69 ⟨bO,u,bP,bQ⟩

theorem ok_spec_l19Seg {q0:GLive}{r:Str}(hS:SH w K [] w K [])(H:SliceAt tGDoc K A a b q0.Seg.Docs)(bn:SliceAt tGEntry K B c d q0.Seg.Entries)(I:SliceAt tInt K C f i q0.Dead)(hm:M.spec_l19Seg F q0=some r):
  Calls prog 27 #[.agg #[V3 A a b,V3 B c d,V3 C f i]] w fun e w'=>∃K',e= .returned (sv r)∧SH w K [] w' K' []∧r.length≤maxLen:=by
 rw [M.spec_l19Seg] at hm
 refine ci func27 u ntmps27 (sr (bx u hS fun k bo W=>?_))
 have X:SH _ _ _ _ _ [obj k [V3 A a b,V3 B c d,V3 C f i] 45]:=W
 refine lv (r_s u) (nr (lv (r_s u) (nsr (lv (r_0 u) (nq ?_)))))
 obtain⟨J,Y,aa⟩:=ob hm
 refine wc_cutg (IW w K [] K [(1,pt k),(3,sv J)] [obj k [V3 A a b,V3 B c d,V3 C f i] 45] (J.length≤maxLen)) ?_ ?_
 ·refine wc_block ?_
  obtain⟨bp,ab,ac⟩:=ob Y
  refine qw (fun (o:Str×Int)=>IW w K [] K [(1,pt k),(3,sv o.1),(4,V6 o.2)] [obj k [V3 A a b,V3 B c d,V3 C f i] 45] (o.1.length≤maxLen∧rng64 o.2)) ab ⟨K,u,X,kr,(by decide :([]:Str).length≤maxLen),d_0⟩ ?_
  rintro o _ bq br ad ae ⟨af,rfl,l,s,ag,bs⟩
  refine wc_seq (sr (mv u (fa ff45_0 u (fl ff43_0 u tf40 m0 l u (lv (rv_len underlying40 u (H.mono s)) (lv (rv_lss u u) (nq (wcc ad u (fun ah y=>?_) (fun ah y=>?_)))))))))
  ·refine wc_skip (qs (wc_block (wc_region (mv u (fa ff45_0 u (fl ff43_0 u tf40 m0 l u (mv u ?_)))))))
   obtain⟨ai,aj,ak⟩:=ob y
   refine li underlying40 tf64 (H.mono s) aj fun al am bu an ao=>?_
   obtain⟨ap,aq,ar,au,aw,ax,rfl,ay,az,aA⟩:=an
   have aB:AtK _ al am [V6 ai.Id,V3 ap aq ar,V3 au aw ax]:=ao
   refine lv (rv_loadS tf64 u l aB u) ?_
   obtain⟨bv,aC,aD⟩:=ob ak
   refine lk co69 (ok_spec_l6Put F l.enter0 ay az aA aC) ?_
   rintro bz bA ⟨aE,rfl,O,bB⟩
   have aF:=(l.c0 O).t1
   obtain⟨bC,R,aG⟩:=ob aD
   refine lv (rv_sadd u u R) (av u (nb (qe_seq (wc_region (mv u (lv (rv_add u u) (av u (wl_nil ?_))))))))
   cases oi aG
   exact qd ⟨_,u,aE,u,aF,(s.trans O.le),(len_cat R),(w64_rng _)⟩
  refine wc_exit (qe_then_exit (qe_then_exit ?_))
  cases oi y
  cases ae _ u
  refine qe_block_eq ?_
  cases oi ac
  exact qd ⟨af,u,l,s,ag⟩
 rintro _ bD ⟨D,rfl,aH,S,aI⟩
 refine qs (sr (lv (r_0 u) (nq ?_)))
 obtain⟨T,aJ,aK⟩:=ob aa
 refine wc_cutg (IW w K [] D [(3,sv T)] [] (T.length≤maxLen)) ?_ ?_
 ·refine wc_block ?_
  obtain⟨bE,aL,aM⟩:=ob aJ
  refine qw (fun (q:Str×Int)=>IW w K [] D [(1,pt k),(3,sv q.1),(5,V6 q.2)] [obj k [V3 A a b,V3 B c d,V3 C f i] 45] (q.1.length≤maxLen∧rng64 q.2)) aL ⟨D,u,aH,kr,aI,d_0⟩ ?_
  rintro q _ bF bG aN aO ⟨aP,rfl,m,x,aQ,bH⟩
  refine wc_seq (sr (mv u (fl ff45_1 u tf30 m0 m u (lv (rv_len underlying30 u (I.mono (S.trans x))) (lv (rv_lss u u) (nq (wcc aN u (fun aR G=>?_) (fun aR G=>?_))))))))
  ·refine wc_skip (qs (wc_block (wc_region (mv u ?_))))
   obtain⟨bI,aS,aT⟩:=ob G
   refine lv (rv_sadd (r:=([100,101,97,100,32]:Str)) u u aS) (fl ff45_1 u tf30 m0 m u (mv u ?_))
   obtain⟨aU,aV,aW⟩:=ob aT
   refine li underlying30 tf3 (I.mono (S.trans x)) aV fun aX aY bJ aZ ba=>?_
   obtain⟨rfl,bb⟩:=aZ
   have bc:AtK _ aX aY [V6 aU]:=ba
   refine lv (rv_load1 tf3 u m (bc 0 _ u)) ?_
   obtain⟨bK,bd,be⟩:=ob aW
   refine lk co70 (ok_spec_l1Dec F m.enter0 bb bd) ?_
   rintro bL bM ⟨bf,rfl,U,bN⟩
   have bg:=(m.c0 U).t1
   obtain⟨bO,bh,bi⟩:=ob be
   refine lv (rv_sadd u u bh) ?_
   obtain⟨bP,V,bj⟩:=ob bi
   refine lv (rv_sadd (r:=([10]:Str)) u u V) (av u (nb (qe_seq (wc_region (mv u (lv (rv_add u u) (av u (wl_nil ?_))))))))
   cases oi bj
   exact qd ⟨_,u,bf,u,bg,(x.trans U.le),(len_cat V),(w64_rng _)⟩
  refine wc_exit (qe_then_exit (qe_then_exit ?_))
  cases oi G
  cases aO _ u
  refine qe_block_eq ?_
  cases oi aM
  exact qd ⟨aP,u,m.s,x,aQ⟩
 rintro _ bQ ⟨bk,rfl,bl,bR,bm⟩
 refine qr (mv u (av u (nq (wc_ret ?_))))
 cases oi aK
 exact ey results27 ⟨bk,u,bl,bm⟩

theorem ok_spec_LivePut {q0:GConf}{q1:GLive}{r:Str}(hS:SH w K [] w K [])(R:SliceAt tStr K A a b q0.Stops)(S:SliceAt tGSyn K B c d q0.Syns)(H:SliceAt tGDoc K C f i q1.Seg.Docs)(I:SliceAt tGEntry K D k l q1.Seg.Entries)(J:SliceAt tInt K G m n q1.Dead)(hm:M.spec_LivePut F q0 q1=some r):
  Calls prog 7 #[.agg #[V3 A a b,V3 B c d],.agg #[V3 C f i,V3 D k l,V3 G m n]] w fun e w'=>∃K',e= .returned (sv r)∧SH w K [] w' K' []∧r.length≤maxLen:=by
 rw [M.spec_LivePut] at hm
 refine ci func7 u ntmps7 (sr (bx u hS fun T al U=>?_))
 have V:SH _ _ _ _ _ [obj T [V3 A a b,V3 B c d] 38]:=U
 refine bx u V fun W am X=>?_
 have x:SH _ _ _ _ _ [obj W [V3 C f i,V3 D k l,V3 G m n] 45,_]:=X
 refine lv (r_s u) (nsr (lv (rv_loadmS (ds:=[V3 A a b,V3 B c d]) tf38 u m1 x u u) (lv (rv_loadmS (ds:=[V3 C f i,V3 D k l,V3 G m n]) tf45 u m0 x u u) (lb tGLive (.agg #[V3 C f i,V3 D k l,V3 G m n]) [V3 C f i,V3 D k l,V3 G m n] q1 underlying72 tf45 ⟨C,f,i,D,k,l,G,m,n,u,H,I,J⟩ x fun Y an ao o aa O=>(lv (rv_build (cs:=#[V3 A a b,V3 B c d,V3 Y 1 1]) sp74 tf74 u (by kernel_rfl)) ?_)))))
 obtain⟨ap,ab,ac⟩:=ob hm
 refine lk co26 ((ok_spec_l18Ok F (q0:=(GIndex.mk q0 ([q1]:List GLive)))) O.enter0 (R.mono o) (S.mono o) aa ab) ?_
 rintro aq ar ⟨ad,rfl,q⟩
 have s:=(O.c0 q).t3
 refine lv (rv_not u) (nq (wcc ac u (fun ae y=>?_) (fun ae y=>?_)))
 ·refine sr (lv (r_s u) (nq (rr ?_)))
  cases oi y
  exact ey results7 ⟨ad,u,s.s,(by decide :([]:Str).length≤maxLen)⟩
 refine wc_skip (qr (lv (rv_loadmS (ds:=[V3 C f i,V3 D k l,V3 G m n]) tf45 u m1 s u u) ?_))
 obtain⟨au,af,ag⟩:=ob y
 refine lk co27 (ok_spec_l19Seg F s.enter0 (H.mono (o.trans q.le)) (I.mono (o.trans q.le)) (J.mono (o.trans q.le)) af) ?_
 rintro aw ax ⟨ah,rfl,ai,aj⟩
 have ak:=(s.c0 ai).t3
 refine av u (nq (wc_ret ?_))
 cases oi ag
 exact ey results7 ⟨ah,u,ak.s,aj⟩

theorem ok_laws_toStringS {q0:List Str}{r:(List Str)}(hS:SH w K [] w K [])(s:SliceAt tStr K A a b q0)(hm:M.laws_toStringS F q0=some r):
  Calls prog 28 #[V3 A a b] w fun e w'=>∃a_1 n_2 c_3 K',e= .returned (V3 a_1 n_2 c_3)∧SH w K [] w' K' [tail (V3 a_1 n_2 c_3) 9 1]∧SliceAt tStr K' a_1 n_2 c_3 r:=by
 rw [M.laws_toStringS] at hm
 refine ci func28 u ntmps28 (sr (lv (r_n u) (nr (mv u (lv (rv_len underlying22 u s) ?_)))))
 obtain⟨H,I,J⟩:=ob hm
 refine wl_make (t:=tStr) wn u underlying22 tf9 u u u I ⟨u,(by decide :([]:Str).length≤maxLen)⟩ hS fun k cs9 ao hmx13 hrow11 O=>?_
 obtain⟨m14,hm15⟩: ∃m,m=H.length:=⟨_,u⟩
 rw [←hm15] at hmx13
 rw [←hm15]
 refine av u (nsr (lv (r_0 u) (nq ?_)))
 obtain⟨C,R,S⟩:=ob J
 refine wc_cutg (fun E' w'=>∃cs23 l,E'=[(3,V3 (some ⟨k,0,none⟩) m14 m14)]∧SH w K [] w' l [obj k cs23 9]∧KLe K l∧RowAt true tStr l cs23 C∧m14=C.length) ?_ ?_
 ·refine wc_block ?_
  obtain⟨ap,T,U⟩:=ob R
  refine qw (fun (c:Int×(List Str)) E' w'=>∃cs36 f,E'=[(0,V3 A a b),(3,V3 (some ⟨k,0,none⟩) m14 m14),(4,V6 c.1)]∧SH w K [] w' f [obj k cs36 9]∧KLe K f∧rng64 c.1∧RowAt true tStr f cs36 c.2∧m14=c.2.length) T ⟨cs9,K,u,O,kr,d_0,hrow11,hm15⟩ ?_
  rintro c _ aq ar V W ⟨cs36,f,rfl,x,o,au,hrow37,hm38⟩
  refine wc_seq (sr (mv u (mv u (lv (rv_len underlying22 u (s.mono o)) (lv (rv_lss u u) (nq (wcc V u (fun X y=>?_) (fun X y=>?_))))))))
  ·refine wc_skip (qs (wc_block (wc_region (mv u (mv u (mv u (mv u ?_)))))))
   obtain⟨q,Y,aa⟩:=ob y
   refine li underlying22 tf9 (s.mono o) Y fun ab ac aw ad ae=>?_
   obtain⟨rfl,af⟩:=ad
   have ag:AtK _ ab ac [sv q]:=ae
   refine lv (rv_load1 tf9 u x (ag 0 _ u)) ?_
   obtain⟨ah,B,ai⟩:=ob aa
   obtain⟨ax,aj,ak⟩:=RowAt.at hrow37 B
   obtain⟨rfl,ay⟩:=aj
   have az: ∀(j:Nat) (d:Value),[sv ah][j]? =some d→cs36[c.1.toNat*tStr.size+j]? =some d:=ak
   refine lv (rv_indexRow (t:=tStr) underlying22 tf9 u u hm38 B) (wl_storeRow (t:=tStr) (v:=sv q) (e:=q) wn tf9 u u ⟨u,af⟩ x hrow37 B fun cs62 aA hrow64 al=>?_)
   have hm66:=hm38.trans (List.length_set (i:=c.1.toNat) (a:=q)).symm
   refine nb (qe_seq (wc_region (mv u (lv (rv_add u u) (av u (wl_nil ?_))))))
   cases oi ai
   exact qd ⟨_,u,cs62,f,u,al,o,(w64_rng _),hrow64,hm66⟩
  refine wc_exit (qe_then_exit (qe_then_exit ?_))
  cases oi y
  cases W _ u
  refine qe_block_eq ?_
  cases oi U
  exact qd ⟨cs36,f,u,x,o,hrow37,hm38⟩
 rintro _ aB ⟨cs23,l,rfl,am,aC,hrow24,hm25⟩
 refine qr (mv u (av u (nq (wc_ret ?_))))
 obtain⟨an,aD,D,G⟩:=SH.freeze am hrow24 (row_max hm25 hmx13)
 rw [←hm25] at D G
 cases oi S
 exact ey results28 ⟨(some ⟨k,0,none⟩),m14,m14,an,u,G,D⟩

theorem ok_laws_toSyn {q0:GSyn}{r:GSyn}(hS:SH w K [] w K [])(o:SliceAt tStr K A a b q0.From)(q:q0.To.length≤maxLen)(hm:M.laws_toSyn F q0=some r):
  Calls prog 71 #[.agg #[V3 A a b,sv q0.To]] w fun e w'=>∃a_1 n_2 c_3 K',e= .returned (.agg #[V3 a_1 n_2 c_3,sv r.To])∧SH w K [] w' K' [tail (V3 a_1 n_2 c_3) 9 1]∧SliceAt tStr K' a_1 n_2 c_3 r.From∧r.To.length≤maxLen:=by
 rw [M.laws_toSyn] at hm
 refine ci func71 u ntmps71 (sr (bx u hS fun s T v=>?_))
 have x:SH _ _ _ _ _ [obj s [V3 A a b,sv q0.To] 122]:=v
 refine al tf128 x fun y U B=>?_
 have C:SH _ _ _ _ _ [obj y [V3 none 0 0,sv []] 128,_]:=B
 refine nr (al tf128 C fun D V G=>?_)
 have i:SH _ _ _ _ _ [obj D [V3 none 0 0,sv []] 128,_,_]:=G
 refine nr (fl ff122_0 u tf22 m2 i u ?_)
 obtain⟨W,H,I⟩:=ob hm
 refine lk co28 (ok_laws_toStringS F i.enter0 o H) ?_
 rintro X Y ⟨c,d,f,J,rfl,O,R⟩
 have S:=(i.c0 O).t4
 refine fa ff128_0 u (ls [V3 c d f,sv []] (V3 c d f) tf22 S.f1 fun aa k=>(nr (fl ff122_1 u tf9 m3 k u (fa ff128_1 u (ls [V3 c d f,sv q0.To] (sv q0.To) tf9 k fun ab l=>(nr (lv (rv_loadmS (ds:=[V3 c d f,sv q0.To]) tf128 u m0 l u u) (lw [V3 c d f,sv q0.To] tf128 l.f2 fun ac m=>(nq ?_)))))))))
 refine wc_ret ?_
 cases oi I
 exact ez results71 tf128 m m0 ⟨c,d,f,J,u,m.s,R,q⟩

theorem ok_laws_toSynS {q0:List GSyn}{r:(List GSyn)}(hS:SH w K [] w K [])(x:SliceAt tGSyn K A a b q0)(hm:M.laws_toSynS F q0=some r):
  Calls prog 29 #[V3 A a b] w fun e w'=>∃a_1 n_2 c_3 K',e= .returned (V3 a_1 n_2 c_3)∧SH w K [] w' K' [tail (V3 a_1 n_2 c_3) 128 2]∧SliceAt tGSyn K' a_1 n_2 c_3 r:=by
 rw [M.laws_toSynS] at hm
 refine ci func29 u ntmps29 (sr (lv (r_n u) (nr (mv u (lv (rv_len underlying23 u x) ?_)))))
 obtain⟨R,S,T⟩:=ob hm
 refine wl_make (t:=tGSyn) wn u underlying36 tf128 u u u S ⟨none,0,0,u,(SliceAt.nil _ _),(by decide :([]:Str).length≤maxLen)⟩ hS fun f cs9 aJ hmx13 hrow11 U=>?_
 obtain⟨m14,hm15⟩: ∃m,m=R.length:=⟨_,u⟩
 rw [←hm15] at hmx13
 rw [←hm15]
 refine av u (nsr (lv (r_0 u) (nq ?_)))
 obtain⟨D,V,W⟩:=ob T
 refine wc_cutg (fun E' w'=>∃cs23 l,E'=[(3,V3 (some ⟨f,0,none⟩) m14 m14)]∧SH w K [] w' l [obj f cs23 128]∧KLe K l∧RowAt true tGSyn l cs23 D∧m14=D.length) ?_ ?_
 ·refine wc_block ?_
  obtain⟨aK,X,Y⟩:=ob V
  refine qw (fun (c:Int×(List GSyn)) E' w'=>∃cs36 k,E'=[(0,V3 A a b),(3,V3 (some ⟨f,0,none⟩) m14 m14),(4,V6 c.1)]∧SH w K [] w' k [obj f cs36 128]∧KLe K k∧rng64 c.1∧RowAt true tGSyn k cs36 c.2∧m14=c.2.length) X ⟨cs9,K,u,U,kr,d_0,hrow11,hm15⟩ ?_
  rintro c _ aL aM aa ab ⟨cs36,k,rfl,o,q,aN,hrow37,hm38⟩
  refine wc_seq (sr (mv u (mv u (lv (rv_len underlying23 u (x.mono q)) (lv (rv_lss u u) (nq (wcc aa u (fun ac y=>?_) (fun ac y=>?_))))))))
  ·refine wc_skip (qs (wc_block (wc_region (mv u (mv u (mv u (mv u ?_)))))))
   obtain⟨ad,ae,af⟩:=ob y
   refine li underlying23 tf122 (x.mono q) ae fun ag ah aO ai aj=>?_
   obtain⟨ak,al,am,rfl,an,ao⟩:=ai
   have ap:AtK _ ag ah [V3 ak al am,sv ad.To]:=aj
   refine lv (rv_loadS tf122 u o ap u) ?_
   obtain⟨B,aq,ar⟩:=ob af
   refine lk co71 (ok_laws_toSyn F o.enter0 an ao aq) ?_
   rintro aP aQ ⟨G,H,I,au,rfl,s,aw,ax⟩
   have ay:=(o.c0 s).t2
   obtain⟨az,C,aA⟩:=ob ar
   obtain⟨aR,aB,aC⟩:=RowAt.at (RowAt.mono s.le hrow37) C
   obtain⟨aD,aE,aF,rfl,aS,aT⟩:=aB
   have aU: ∀(j:Nat) (d:Value),[V3 aD aE aF,sv az.To][j]? =some d→cs36[c.1.toNat*tGSyn.size+j]? =some d:=aC
   refine lv (rv_indexRow (t:=tGSyn) underlying36 tf128 u u hm38 C) (wl_storeRow (t:=tGSyn) (v:=.agg #[V3 G H I,sv B.To]) (e:=B) wn tf128 u u ⟨G,H,I,u,aw,ax⟩ ay.f1 (RowAt.mono s.le hrow37) C fun cs84 aV hrow86 aG=>?_)
   have hm88:=hm38.trans (List.length_set (i:=c.1.toNat) (a:=B)).symm
   refine nb (qe_seq (wc_region (mv u (lv (rv_add u u) (av u (wl_nil ?_))))))
   cases oi aA
   exact qd ⟨_,u,cs84,au,u,aG.s,(q.trans s.le),(w64_rng _),hrow86,hm88⟩
  refine wc_exit (qe_then_exit (qe_then_exit ?_))
  cases oi y
  cases ab _ u
  refine qe_block_eq ?_
  cases oi Y
  exact qd ⟨cs36,k,u,o,q,hrow37,hm38⟩
 rintro _ aW ⟨cs23,l,rfl,aH,aX,hrow24,hm25⟩
 refine qr (mv u (av u (nq (wc_ret ?_))))
 obtain⟨aI,aY,J,O⟩:=SH.freeze aH hrow24 (row_max hm25 hmx13)
 rw [←hm25] at J O
 cases oi W
 exact ey results29 ⟨(some ⟨f,0,none⟩),m14,m14,aI,u,O,J⟩

theorem ok_laws_toConf {q0:GConf}{r:GConf}(hS:SH w K [] w K [])(D:SliceAt tStr K A a b q0.Stops)(G:SliceAt tGSyn K B c d q0.Syns)(hm:M.laws_toConf F q0=some r):
  Calls prog 8 #[.agg #[V3 A a b,V3 B c d]] w fun e w'=>∃a_1 n_2 c_3 a_5 n_6 c_7 K',e= .returned (.agg #[V3 a_1 n_2 c_3,V3 a_5 n_6 c_7])∧SH w K [] w' K' [tail (V3 a_1 n_2 c_3) 9 1,tail (V3 a_5 n_6 c_7) 128 2]∧SliceAt tStr K' a_1 n_2 c_3 r.Stops∧SliceAt tGSyn K' a_5 n_6 c_7 r.Syns:=by
 rw [M.laws_toConf] at hm
 refine ci func8 u ntmps8 (sr (bx u hS fun H af I=>?_))
 have J:SH _ _ _ _ _ [obj H [V3 A a b,V3 B c d] 25]:=I
 refine al tf38 J fun O ag R=>?_
 have S:SH _ _ _ _ _ [obj O [V3 none 0 0,V3 none 0 0] 38,_]:=R
 refine nr (al tf38 S fun T ah U=>?_)
 have q:SH _ _ _ _ _ [obj T [V3 none 0 0,V3 none 0 0] 38,_,_]:=U
 refine nr (fl ff25_0 u tf22 m2 q u ?_)
 obtain⟨ai,V,W⟩:=ob hm
 refine lk co28 (ok_laws_toStringS F q.enter0 D V) ?_
 rintro aj ak ⟨f,i,k,am,rfl,v,X⟩
 have Y:=(q.c0 v).t4
 refine fa ff38_0 u (ls [V3 f i k,V3 none 0 0] (V3 f i k) tf22 Y.f1 fun an s=>(nr (fl ff25_1 u tf23 m3 s u ?_)))
 obtain⟨ao,aa,ab⟩:=ob W
 refine lk co29 (ok_laws_toSynS F s.enter0 (G.mono v.le) aa) ?_
 rintro ap aq ⟨l,m,o,ac,rfl,x,ad⟩
 have ae:=(s.c0 x).t5
 refine fa ff38_1 u (ls [V3 f i k,V3 l m o] (V3 l m o) tf36 ae.f1 fun ar y=>(nr (lv (rv_loadmS (ds:=[V3 f i k,V3 l m o]) tf38 u m0 y u u) (lw [V3 f i k,V3 l m o] tf38 y.f3 fun au C=>(nq (wc_ret ?_))))))
 cases oi ab
 exact ez results8 tf38 C m0 ⟨f,i,k,l,m,o,ac,u,C.f2.f3.s,(X.mono x.le),ad⟩

theorem ok_laws_toField {q0:GField}{r:GField}(hS:SH w K [] w K [])(f:q0.Name.length≤maxLen)(i:q0.Text.length≤maxLen)(hm:M.laws_toField F q0=some r):
  Calls prog 203 #[.agg #[sv q0.Name,sv q0.Text]] w fun e w'=>∃K',e= .returned (.agg #[sv r.Name,sv r.Text])∧SH w K [] w' K' []∧r.Name.length≤maxLen∧r.Text.length≤maxLen:=by
 rw [M.laws_toField] at hm
 refine ci func203 u ntmps203 (sr (bx u hS fun g3 x k=>?_))
 have l:SH _ _ _ _ _ [obj g3 [sv q0.Name,sv q0.Text] 268]:=k
 refine al tf118 l fun m y o=>?_
 have q:SH _ _ _ _ _ [obj m [sv [],sv []] 118,_]:=o
 refine nr (al tf118 q fun s A v=>?_)
 have a:SH _ _ _ _ _ [obj s [sv [],sv []] 118,_,_]:=v
 refine nr (fl ff268_0 u tf9 m2 a u (fa ff118_0 u (ls [sv q0.Name,sv []] (sv q0.Name) tf9 a fun B b=>(nr (fl ff268_1 u tf9 m2 b u (fa ff118_1 u (ls [sv q0.Name,sv q0.Text] (sv q0.Text) tf9 b fun C c=>(nr (lv (rv_loadmS (ds:=[sv q0.Name,sv q0.Text]) tf118 u m0 c u u) ?_)))))))))
 refine lw [sv q0.Name,sv q0.Text] tf118 c.f1 fun D d=>(nq (wc_ret ?_))
 cases oi hm
 exact ez results203 tf118 d m0 ⟨K,u,d.s,f,i⟩

theorem ok_laws_toFieldS {q0:List GField}{r:(List GField)}(hS:SH w K [] w K [])(y:SliceAt tGField K A a b q0)(hm:M.laws_toFieldS F q0=some r):
  Calls prog 162 #[V3 A a b] w fun e w'=>∃a_1 n_2 c_3 K',e= .returned (V3 a_1 n_2 c_3)∧SH w K [] w' K' [tail (V3 a_1 n_2 c_3) 118 2]∧SliceAt tGField K' a_1 n_2 c_3 r:=by
 rw [M.laws_toFieldS] at hm
 refine ci func162 u ntmps162 (sr (lv (r_n u) (nr (mv u (lv (rv_len underlying177 u y) ?_)))))
 obtain⟨O,R,S⟩:=ob hm
 refine wl_make (t:=tGField) wn u underlying61 tf118 u u u R ⟨u,(by decide :([]:Str).length≤maxLen),(by decide :([]:Str).length≤maxLen)⟩ hS fun f cs9 aA hmx13 hrow11 T=>?_
 obtain⟨m14,hm15⟩: ∃m,m=O.length:=⟨_,u⟩
 rw [←hm15] at hmx13
 rw [←hm15]
 refine av u (nsr (lv (r_0 u) (nq ?_)))
 obtain⟨D,U,V⟩:=ob S
 refine wc_cutg (fun E' w'=>∃cs23 l,E'=[(3,V3 (some ⟨f,0,none⟩) m14 m14)]∧SH w K [] w' l [obj f cs23 118]∧KLe K l∧RowAt true tGField l cs23 D∧m14=D.length) ?_ ?_
 ·refine wc_block ?_
  obtain⟨aB,W,X⟩:=ob U
  refine qw (fun (c:Int×(List GField)) E' w'=>∃cs36 k,E'=[(0,V3 A a b),(3,V3 (some ⟨f,0,none⟩) m14 m14),(4,V6 c.1)]∧SH w K [] w' k [obj f cs36 118]∧KLe K k∧rng64 c.1∧RowAt true tGField k cs36 c.2∧m14=c.2.length) W ⟨cs9,K,u,T,kr,d_0,hrow11,hm15⟩ ?_
  rintro c _ aC aD Y aa ⟨cs36,k,rfl,o,q,aE,hrow37,hm38⟩
  refine wc_seq (sr (mv u (mv u (lv (rv_len underlying177 u (y.mono q)) (lv (rv_lss u u) (nq (wcc Y u (fun ab B=>?_) (fun ab B=>?_))))))))
  ·refine wc_skip (qs (wc_block (wc_region (mv u (mv u (mv u (mv u ?_)))))))
   obtain⟨G,ac,ad⟩:=ob B
   refine li underlying177 tf268 (y.mono q) ac fun ae af aF ag ah=>?_
   obtain⟨rfl,ai,aj⟩:=ag
   have ak:AtK _ ae af [sv G.Name,sv G.Text]:=ah
   refine lv (rv_loadS tf268 u o ak u) ?_
   obtain⟨s,al,am⟩:=ob ad
   refine lk co203 (ok_laws_toField F o.enter0 ai aj al) ?_
   rintro aG aH ⟨an,rfl,x,ao,ap⟩
   have aq:=(o.c0 x).t1
   obtain⟨H,C,ar⟩:=ob am
   obtain⟨aI,au,aw⟩:=RowAt.at (RowAt.mono x.le hrow37) C
   obtain⟨rfl,aJ,aK⟩:=au
   have aL: ∀(j:Nat) (d:Value),[sv H.Name,sv H.Text][j]? =some d→cs36[c.1.toNat*tGField.size+j]? =some d:=aw
   refine lv (rv_indexRow (t:=tGField) underlying61 tf118 u u hm38 C) (wl_storeRow (t:=tGField) (v:=.agg #[sv s.Name,sv s.Text]) (e:=s) wn tf118 u u ⟨u,ao,ap⟩ aq (RowAt.mono x.le hrow37) C fun cs74 aM hrow76 ax=>?_)
   have hm78:=hm38.trans (List.length_set (i:=c.1.toNat) (a:=s)).symm
   refine nb (qe_seq (wc_region (mv u (lv (rv_add u u) (av u (wl_nil ?_))))))
   cases oi ar
   exact qd ⟨_,u,cs74,an,u,ax,(q.trans x.le),(w64_rng _),hrow76,hm78⟩
  refine wc_exit (qe_then_exit (qe_then_exit ?_))
  cases oi B
  cases aa _ u
  refine qe_block_eq ?_
  cases oi X
  exact qd ⟨cs36,k,u,o,q,hrow37,hm38⟩
 rintro _ aN ⟨cs23,l,rfl,ay,aO,hrow24,hm25⟩
 refine qr (mv u (av u (nq (wc_ret ?_))))
 obtain⟨az,aP,I,J⟩:=SH.freeze ay hrow24 (row_max hm25 hmx13)
 rw [←hm25] at I J
 cases oi V
 exact ey results162 ⟨(some ⟨f,0,none⟩),m14,m14,az,u,J,I⟩

theorem ok_laws_toAttr {q0:GAttr}{r:GAttr}(hS:SH w K [] w K [])(f:q0.Name.length≤maxLen)(i:rng64 q0.Num)(hm:M.laws_toAttr F q0=some r):
  Calls prog 204 #[.agg #[sv q0.Name,V6 q0.Num]] w fun e w'=>∃K',e= .returned (.agg #[sv r.Name,V6 r.Num])∧SH w K [] w' K' []∧r.Name.length≤maxLen∧rng64 r.Num:=by
 rw [M.laws_toAttr] at hm
 refine ci func204 u ntmps204 (sr (bx u hS fun g3 x k=>?_))
 have l:SH _ _ _ _ _ [obj g3 [sv q0.Name,V6 q0.Num] 270]:=k
 refine al tf135 l fun m y o=>?_
 have q:SH _ _ _ _ _ [obj m [sv [],V6 0] 135,_]:=o
 refine nr (al tf135 q fun s A v=>?_)
 have a:SH _ _ _ _ _ [obj s [sv [],V6 0] 135,_,_]:=v
 refine nr (fl ff270_0 u tf9 m2 a u (fa ff135_0 u (ls [sv q0.Name,V6 0] (sv q0.Name) tf9 a fun B b=>(nr (fl ff270_1 u tf3 m2 b u (fa ff135_1 u (ls [sv q0.Name,V6 q0.Num] (V6 q0.Num) tf3 b fun C c=>(nr (lv (rv_loadmS (ds:=[sv q0.Name,V6 q0.Num]) tf135 u m0 c u u) ?_)))))))))
 refine lw [sv q0.Name,V6 q0.Num] tf135 c.f1 fun D d=>(nq (wc_ret ?_))
 cases oi hm
 exact ez results204 tf135 d m0 ⟨K,u,d.s,f,i⟩

theorem ok_laws_toAttrS {q0:List GAttr}{r:(List GAttr)}(hS:SH w K [] w K [])(y:SliceAt tGAttr K A a b q0)(hm:M.laws_toAttrS F q0=some r):
  Calls prog 163 #[V3 A a b] w fun e w'=>∃a_1 n_2 c_3 K',e= .returned (V3 a_1 n_2 c_3)∧SH w K [] w' K' [tail (V3 a_1 n_2 c_3) 135 2]∧SliceAt tGAttr K' a_1 n_2 c_3 r:=by
 rw [M.laws_toAttrS] at hm
 refine ci func163 u ntmps163 (sr (lv (r_n u) (nr (mv u (lv (rv_len underlying178 u y) ?_)))))
 obtain⟨O,R,S⟩:=ob hm
 refine wl_make (t:=tGAttr) wn u underlying62 tf135 u u u R ⟨u,(by decide :([]:Str).length≤maxLen),d_0⟩ hS fun f cs9 aA hmx13 hrow11 T=>?_
 obtain⟨m14,hm15⟩: ∃m,m=O.length:=⟨_,u⟩
 rw [←hm15] at hmx13
 rw [←hm15]
 refine av u (nsr (lv (r_0 u) (nq ?_)))
 obtain⟨D,U,V⟩:=ob S
 refine wc_cutg (fun E' w'=>∃cs23 l,E'=[(3,V3 (some ⟨f,0,none⟩) m14 m14)]∧SH w K [] w' l [obj f cs23 135]∧KLe K l∧RowAt true tGAttr l cs23 D∧m14=D.length) ?_ ?_
 ·refine wc_block ?_
  obtain⟨aB,W,X⟩:=ob U
  refine qw (fun (c:Int×(List GAttr)) E' w'=>∃cs36 k,E'=[(0,V3 A a b),(3,V3 (some ⟨f,0,none⟩) m14 m14),(4,V6 c.1)]∧SH w K [] w' k [obj f cs36 135]∧KLe K k∧rng64 c.1∧RowAt true tGAttr k cs36 c.2∧m14=c.2.length) W ⟨cs9,K,u,T,kr,d_0,hrow11,hm15⟩ ?_
  rintro c _ aC aD Y aa ⟨cs36,k,rfl,o,q,aE,hrow37,hm38⟩
  refine wc_seq (sr (mv u (mv u (lv (rv_len underlying178 u (y.mono q)) (lv (rv_lss u u) (nq (wcc Y u (fun ab B=>?_) (fun ab B=>?_))))))))
  ·refine wc_skip (qs (wc_block (wc_region (mv u (mv u (mv u (mv u ?_)))))))
   obtain⟨G,ac,ad⟩:=ob B
   refine li underlying178 tf270 (y.mono q) ac fun ae af aF ag ah=>?_
   obtain⟨rfl,ai,aj⟩:=ag
   have ak:AtK _ ae af [sv G.Name,V6 G.Num]:=ah
   refine lv (rv_loadS tf270 u o ak u) ?_
   obtain⟨s,al,am⟩:=ob ad
   refine lk co204 (ok_laws_toAttr F o.enter0 ai aj al) ?_
   rintro aG aH ⟨an,rfl,x,ao,ap⟩
   have aq:=(o.c0 x).t1
   obtain⟨H,C,ar⟩:=ob am
   obtain⟨aI,au,aw⟩:=RowAt.at (RowAt.mono x.le hrow37) C
   obtain⟨rfl,aJ,aK⟩:=au
   have aL: ∀(j:Nat) (d:Value),[sv H.Name,V6 H.Num][j]? =some d→cs36[c.1.toNat*tGAttr.size+j]? =some d:=aw
   refine lv (rv_indexRow (t:=tGAttr) underlying62 tf135 u u hm38 C) (wl_storeRow (t:=tGAttr) (v:=.agg #[sv s.Name,V6 s.Num]) (e:=s) wn tf135 u u ⟨u,ao,ap⟩ aq (RowAt.mono x.le hrow37) C fun cs74 aM hrow76 ax=>?_)
   have hm78:=hm38.trans (List.length_set (i:=c.1.toNat) (a:=s)).symm
   refine nb (qe_seq (wc_region (mv u (lv (rv_add u u) (av u (wl_nil ?_))))))
   cases oi ar
   exact qd ⟨_,u,cs74,an,u,ax,(q.trans x.le),(w64_rng _),hrow76,hm78⟩
  refine wc_exit (qe_then_exit (qe_then_exit ?_))
  cases oi B
  cases aa _ u
  refine qe_block_eq ?_
  cases oi X
  exact qd ⟨cs36,k,u,o,q,hrow37,hm38⟩
 rintro _ aN ⟨cs23,l,rfl,ay,aO,hrow24,hm25⟩
 refine qr (mv u (av u (nq (wc_ret ?_))))
 obtain⟨az,aP,I,J⟩:=SH.freeze ay hrow24 (row_max hm25 hmx13)
 rw [←hm25] at I J
 cases oi V
 exact ey results163 ⟨(some ⟨f,0,none⟩),m14,m14,az,u,J,I⟩

theorem ok_laws_toDoc {q0:GDoc}{r:GDoc}(hS:SH w K [] w K [])(G:rng64 q0.Id)(H:SliceAt tGField K A a b q0.Fields)(I:SliceAt tGAttr K B c d q0.Nums)(hm:M.laws_toDoc F q0=some r):
  Calls prog 118 #[.agg #[V6 q0.Id,V3 A a b,V3 B c d]] w fun e w'=>∃a_2 n_3 c_4 a_6 n_7 c_8 K',e= .returned (.agg #[V6 r.Id,V3 a_2 n_3 c_4,V3 a_6 n_7 c_8])∧SH w K [] w' K' [tail (V3 a_2 n_3 c_4) 118 2,tail (V3 a_6 n_7 c_8) 135 2]∧rng64 r.Id∧SliceAt tGField K' a_2 n_3 c_4 r.Fields∧SliceAt tGAttr K' a_6 n_7 c_8 r.Nums:=by
 rw [M.laws_toDoc] at hm
 refine ci func118 u ntmps118 (sr (bx u hS fun J ah O=>?_))
 have R:SH _ _ _ _ _ [obj J [V6 q0.Id,V3 A a b,V3 B c d] 180]:=O
 refine al tf64 R fun S ai T=>?_
 have U:SH _ _ _ _ _ [obj S [V6 0,V3 none 0 0,V3 none 0 0] 64,_]:=T
 refine nr (al tf64 U fun V aj W=>?_)
 have v:SH _ _ _ _ _ [obj V [V6 0,V3 none 0 0,V3 none 0 0] 64,_,_]:=W
 refine nr (fl ff180_0 u tf3 m2 v u (fa ff64_0 u (ls [V6 q0.Id,V3 none 0 0,V3 none 0 0] (V6 q0.Id) tf3 v fun ak q=>(nr (fl ff180_1 u tf177 m2 q u ?_)))))
 obtain⟨am,X,Y⟩:=ob hm
 refine lk co162 (ok_laws_toFieldS F q.enter0 H X) ?_
 rintro an ao ⟨f,i,k,ap,rfl,x,aa⟩
 have ab:=(q.c0 x).t4
 refine fa ff64_1 u (ls [V6 q0.Id,V3 f i k,V3 none 0 0] (V3 f i k) tf61 ab.f1 fun aq s=>(nr (fl ff180_2 u tf178 m3 s u ?_)))
 obtain⟨ar,ac,ad⟩:=ob Y
 refine lk co163 (ok_laws_toAttrS F s.enter0 (I.mono x.le) ac) ?_
 rintro au aw ⟨l,m,o,ae,rfl,y,af⟩
 have ag:=(s.c0 y).t5
 refine fa ff64_2 u (ls [V6 q0.Id,V3 f i k,V3 l m o] (V3 l m o) tf62 ag.f1 fun ax C=>(nr (lv (rv_loadmS (ds:=[V6 q0.Id,V3 f i k,V3 l m o]) tf64 u m0 C u u) (lw [V6 q0.Id,V3 f i k,V3 l m o] tf64 C.f3 fun ay D=>(nq (wc_ret ?_))))))
 cases oi ad
 exact ez results118 tf64 D m0 ⟨f,i,k,l,m,o,ae,u,D.f2.f3.s,G,(aa.mono y.le),af⟩
end Go.Proofs.YtpdfkjjmcnhakaaGreatDoor
