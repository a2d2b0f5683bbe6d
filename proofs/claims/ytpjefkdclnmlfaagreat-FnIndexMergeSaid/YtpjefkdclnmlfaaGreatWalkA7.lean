/-
 Walks of the functions. Printed by gen.py.
-/
import Derived.Test.YtpjefkdclnmlfaaGreatWalkA2
import Derived.Test.YtpjefkdclnmlfaaGreatWalkA5
import Derived.Test.YtpjefkdclnmlfaaGreatWalkA6
set_option linter.unusedVariables false
set_option linter.unusedSectionVars false
set_option maxRecDepth 100000
namespace Go.Proofs.YtpjefkdclnmlfaaGreat
set_option maxHeartbeats 4000000
open Go Go.Fk Go.RowKit Tryz
variable (F:Nat){w:World}{K:KMap}{Z:List Nat}{g1 g2 g3:Nat}{A B C D G H I J O R S T:Option Addr}{a b c d f i k l m n o p q s v x y aa ab ac ad ae af ag:Nat}
variable [dr:Dr]

theorem ok_laws_foPosts {q0:List GPost}{q1:List GPost}{r:Bool}(hS:SH w K [] w K [])(k:SliceAt tGPost K A a b q0)(o:SliceAt tGPost K B c d q1)(hm:M.laws_foPosts F q0 q1=some r):
  Calls prog 222 #[V3 A a b,V3 B c d] w (R_b w K r):=by
 rw [M.laws_foPosts] at hm
 refine ci func222 u ntmps222 (sr (lv (r_f u) (nsr (mv u (lv (rv_len underlying61 u k) (mv u (lv (rv_len underlying61 u o) (lv (rv_neq u u) (nq ?_)))))))))
 refine wc_cond u (fun q=>?_) (fun q=>?_)
 ·have s:=cond_t q hm
  refine sr (lv (r_f u) (nq (rr ?_)))
  cases oi s
  exact ey results222 ⟨K,u,hS⟩
 have s:=cond_f q hm
 refine wc_skip (qs (sr (lv (r_0 u) (nq ?_))))
 obtain⟨S,T,l⟩:=ob s
 refine wc_cutg (IE S w K [] K [] []) ?_ ?_
 ·refine wc_block ?_
  obtain⟨bl,U,D⟩:=ob T
  refine qw (fun (m:Int)=>IW w K [] K [(0,V3 A a b),(1,V3 B c d),(5,V6 m)] [] (rng64 m)) U ⟨K,u,hS,kr,d_0⟩ ?_
  rintro m _ bm bn V G ⟨H,rfl,I,i,bo⟩
  refine wc_seq (sr (mv u (mv u (lv (rv_len underlying61 u (k.mono i)) (lv (rv_lss u u) (nq (wcc V u (fun W x=>?_) (fun W x=>?_))))))))
  ·refine wc_skip (qs (wc_block (wc_seq ?_)))
   obtain⟨X,Y,aa⟩:=ob x
   refine wc_cutg (IV w K [] H [(0,V3 A a b),(1,V3 B c d),(5,V6 m),(41,.bool X)] []) ?_ ?_
   ·refine wc_quiet mixed (by kernel_rfl) I (km u (km u ?_))
    obtain⟨ab,ac,ad⟩:=ob Y
    refine ki underlying61 tf134 (k.mono i) ac fun ae af bp ag ah=>?_
    obtain⟨ai,aj,ak,rfl,bq,br⟩:=ag
    have al:AtK _ ae af [V6 ab.Doc,V3 ai aj ak]:=ah
    refine kv (rv_fieldAddr ff134_0 u) (kh (rq_load1 tf3 u (al 0 _ u)) (km u (km u ?_)))
    obtain⟨am,an,ao⟩:=ob ad
    refine ki underlying61 tf134 (o.mono i) an fun ap aq bs ar au=>?_
    obtain⟨aw,ax,ay,rfl,bu,bv⟩:=ar
    have az:AtK _ ap aq [V6 am.Doc,V3 aw ax ay]:=au
    refine kv (rv_fieldAddr ff134_0 u) (kh (rq_load1 tf3 u (az 0 _ u)) (kv (rv_neq u u) (km u (bt ao (fun f y=>?_) (fun f y=>?_)))))
    ·iterate 12 refine kn f ?_
     refine kv (p_t u f u) (wq_nil ?_)
     rintro bx ⟨aA,aB,aC⟩
     cases oi y
     exact qd ⟨aA,u,aB,aC⟩
    refine kg f (rv_move u) (kg f (rv_move u) ?_)
    obtain⟨aD,aE,aF⟩:=ob y
    refine wq_indexAddr (t:=tGPost) (wg u u f) u underlying61 tf134 u u (k.mono i) aE fun aG aH bz aI aJ=>?_
    obtain⟨aK,aL,aM,rfl,bA,aN⟩:=aI
    have aO:AtK _ aG aH [V6 aD.Doc,V3 aK aL aM]:=aJ
    refine kg f (rv_fieldAddr ff134_1 u) (kgh f (rq_load1 tf71 u (aO 1 _ u)) (kg f (rv_move u) (kg f (rv_move u) ?_)))
    obtain⟨aP,aQ,aR⟩:=ob aF
    refine wq_indexAddr (t:=tGPost) (wg u u f) u underlying61 tf134 u u (o.mono i) aQ fun aS aT bB aU aV=>?_
    obtain⟨aW,aX,aY,rfl,bC,aZ⟩:=aU
    have ba:AtK _ aS aT [V6 aP.Doc,V3 aW aX aY]:=aV
    refine kg f (rv_fieldAddr ff134_1 u) (kgh f (rq_load1 tf71 u (ba 1 _ u)) ?_)
    obtain⟨bD,bb,bc⟩:=ob aR
    refine kcg f co177 (fun _ _ bd J=>(ok_laws_foInts F) bd.enter0 (aN.mono J) (aZ.mono J) bb) (kg f (rv_not u) (kv (rv_pick_f u f u) (wq_nil ?_)))
    rintro bE ⟨be,bf,bg⟩
    cases oi bc
    exact qd ⟨be,u,bf,bg⟩
   rintro _ bF ⟨O,rfl,R,bh⟩
   refine qe_seq (wcc aa u (fun bi C=>?_) (fun bi C=>?_))
   ·refine sr (lv (r_f u) (nq (wc_ret (qe_block_ret (qe_then_ret (qe_then_ret ?_))))))
    cases oi C
    cases G _ u
    refine qe_block_ret (qe_then_ret ?_)
    cases oi D
    refine qe_then_ret ?_
    cases oi l
    exact ey results222 ⟨O,u,R⟩
   refine wc_skip (qe_block (qe_seq (wc_region (mv u (lv (rv_add u u) (av u (wl_nil ?_)))))))
   cases oi C
   exact qd ⟨_,u,O,u,R,(i.trans bh),(w64_rng _)⟩
  refine wc_exit (qe_then_exit (qe_then_exit ?_))
  cases oi x
  cases G _ u
  refine qe_block_eq ?_
  cases oi D
  exact qe_mid' ⟨_,H,u,u,I,i⟩ trivial
 rintro _ bG ⟨bH,bj,rfl,rfl,bk,bI⟩
 have l:=elim_l l
 refine qr (lv (r_t u) (nq (wc_ret ?_)))
 cases oi l
 exact ey results222 ⟨bj,u,bk⟩

theorem ok_laws_foSeg {q0:GSeg}{q1:GSeg}{r:Bool}(hS:SH w K [] w K [])(ar:SliceAt tGDoc K A a b q0.Docs)(H:SliceAt tGEntry K B c d q0.Entries)(au:SliceAt tGDoc K C f i q1.Docs)(J:SliceAt tGEntry K D k l q1.Entries)(hm:M.laws_foSeg F q0 q1=some r):
  Calls prog 176 #[.agg #[V3 A a b,V3 B c d],.agg #[V3 C f i,V3 D k l]] w (R_b w K r):=by
 rw [M.laws_foSeg] at hm
 refine ci func176 u ntmps176 (sr (bx u hS fun x ct aw=>?_))
 have ax:SH _ _ _ _ _ [obj x [V3 A a b,V3 B c d] 46]:=aw
 refine bx u ax fun y cu ay=>?_
 have O:SH _ _ _ _ _ [obj y [V3 C f i,V3 D k l] 46,_]:=ay
 refine lv (r_f u) (ns (wc_seq ?_))
 obtain⟨az,aA,aB⟩:=ob hm
 refine wc_cutg (IV w K [] K [(2,pt x),(3,pt y),(20,.bool az)] [obj x [V3 A a b,V3 B c d] 46,obj y [V3 C f i,V3 D k l] 46]) ?_ ?_
 ·refine wc_region (fl ff46_0 u tf43 m1 O u (fl ff46_0 u tf43 m0 O u ?_))
  obtain⟨cv,aC,aD⟩:=ob aA
  refine lk co41 (ok_laws_foDocs F O.enter0 ar au aC) ?_
  rintro cw cx ⟨ad,rfl,I⟩
  have R:=(O.c0 I).t2
  refine lv (rv_not u) (mv u (bt aD (fun q V=>?_) (fun q V=>?_)))
  ·iterate 7 refine lu q ?_
   refine lv (p_t u q u) (wl_nil ?_)
   cases oi V
   exact qd ⟨ad,u,R.f1,I.le⟩
  refine lg q (rv_fieldAddr ff46_1 u) (lg q (rv_loadm1 tf44 u m1 R u) (lg q (rv_len underlying44 u (H.mono I.le)) (lg q (rv_fieldAddr ff46_1 u) (lg q (rv_loadm1 tf44 u m0 R u) (lg q (rv_len underlying44 u (J.mono I.le)) (lg q (rv_neq u u) (lv (rv_pick_f u q u) (wl_nil ?_))))))))
  cases oi V
  exact qd ⟨ad,u,R.f1,I.le⟩
 rintro _ cy ⟨S,rfl,ae,G⟩
 refine qe_seq (wcc aB u (fun aE W=>?_) (fun aE W=>?_))
 ·refine sr (lv (r_f u) (nq (rr ?_)))
  cases oi W
  exact ey results176 ⟨S,u,ae.s⟩
 refine wc_skip (qs (sr (lv (r_0 u) (nq ?_))))
 obtain⟨aF,aG,T⟩:=ob W
 refine wc_cutg (IE aF w K [] S [] []) ?_ ?_
 ·refine wc_block ?_
  obtain⟨cz,aH,af⟩:=ob aG
  refine qw (fun (U:Int)=>IW w K [] S [(2,pt x),(3,pt y),(5,V6 U)] [obj x [V3 A a b,V3 B c d] 46,obj y [V3 C f i,V3 D k l] 46] (rng64 U)) aH ⟨S,u,ae,kr,d_0⟩ ?_
  rintro U _ cA cB aI ag ⟨ah,rfl,X,s,cC⟩
  refine wc_seq (sr (mv u (fl ff46_1 u tf44 m0 X u (lv (rv_len underlying44 u (H.mono (G.trans s))) (lv (rv_lss u u) (nq (wcc aI u (fun aJ Y=>?_) (fun aJ Y=>?_))))))))
  ·refine wc_skip (qs (wc_block (wc_seq ?_)))
   obtain⟨aK,aL,aM⟩:=ob Y
   refine wc_cutg (IV w K [] ah [(2,pt x),(3,pt y),(5,V6 U),(71,.bool aK)] [obj x [V3 A a b,V3 B c d] 46,obj y [V3 C f i,V3 D k l] 46]) ?_ ?_
   ·refine wc_quiet mixed (by kernel_rfl) X (kv (rv_fieldAddr ff46_1 u) (kh (rq_loadm1 tf44 u m0 u) (km u ?_)))
    obtain⟨ai,aN,aO⟩:=ob aL
    refine ki underlying44 tf116 (H.mono (G.trans s)) aN fun aP aQ cD aR aS=>?_
    obtain⟨aT,aU,aV,rfl,cE,cF,cG⟩:=aR
    have aW:AtK _ aP aQ [sv ai.Field,sv ai.Term,V3 aT aU aV]:=aS
    refine kv (rv_fieldAddr ff116_0 u) (kh (rq_load1 tf9 u (aW 0 _ u)) (kv (rv_fieldAddr ff46_1 u) (kh (rq_loadm1 tf44 u m1 u) (km u ?_))))
    obtain⟨aj,aX,aY⟩:=ob aO
    refine ki underlying44 tf116 (J.mono (G.trans s)) aX fun aZ ba cH bb bc=>?_
    obtain⟨bd,be,bf,rfl,cI,cJ,cK⟩:=bb
    have bg:AtK _ aZ ba [sv aj.Field,sv aj.Term,V3 bd be bf]:=bc
    refine kv (rv_fieldAddr ff116_0 u) (kh (rq_load1 tf9 u (bg 0 _ u)) (kv (rv_sneq u u) (km u (bt aY (fun o aa=>?_) (fun o aa=>?_)))))
    ·iterate 13 refine kn o ?_
     refine kv (p_t u o u) (km u ?_)
     iterate 14 refine qv u u u u ?_
     refine kv (p_t u u u) (wq_nil ?_)
     rintro cL ⟨bh,bi,bj⟩
     cases oi aa
     exact qd ⟨bh,u,bi,bj⟩
    refine kg o (rv_fieldAddr ff46_1 u) (kgh o (rq_loadm1 tf44 u m0 u) (kg o (rv_move u) ?_))
    obtain⟨ak,bk,bl⟩:=ob aa
    refine wq_indexAddr (t:=tGEntry) (wg u u o) u underlying44 tf116 u u (H.mono (G.trans s)) bk fun bm bn cM bo bp=>?_
    obtain⟨bq,br,bs,rfl,cN,cO,cP⟩:=bo
    have bu:AtK _ bm bn [sv ak.Field,sv ak.Term,V3 bq br bs]:=bp
    refine kg o (rv_fieldAddr ff116_1 u) (kgh o (rq_load1 tf9 u (bu 1 _ u)) (kg o (rv_fieldAddr ff46_1 u) (kgh o (rq_loadm1 tf44 u m1 u) (kg o (rv_move u) ?_))))
    obtain⟨al,bv,bz⟩:=ob bl
    refine wq_indexAddr (t:=tGEntry) (wg u u o) u underlying44 tf116 u u (J.mono (G.trans s)) bv fun bA bB cQ bC bD=>?_
    obtain⟨bE,bF,bG,rfl,cR,cS,cT⟩:=bC
    have bH:AtK _ bA bB [sv al.Field,sv al.Term,V3 bE bF bG]:=bD
    refine kg o (rv_fieldAddr ff116_1 u) (kgh o (rq_load1 tf9 u (bH 1 _ u)) (kg o (rv_sneq u u) (kv (rv_pick_f u o u) (km u (bt bz (fun m ab=>?_) (fun m ab=>?_))))))
    ·iterate 14 refine kn m ?_
     refine kv (p_t u m u) (wq_nil ?_)
     rintro cU ⟨bI,bJ,bK⟩
     cases oi ab
     exact qd ⟨bI,u,bJ,bK⟩
    refine kg m (rv_fieldAddr ff46_1 u) (kgh m (rq_loadm1 tf44 u m0 u) (kg m (rv_move u) ?_))
    obtain⟨am,bL,bM⟩:=ob ab
    refine wq_indexAddr (t:=tGEntry) (wg u u m) u underlying44 tf116 u u (H.mono (G.trans s)) bL fun bN bO cV bP bQ=>?_
    obtain⟨bR,bS,bT,rfl,cW,cX,bU⟩:=bP
    have bV:AtK _ bN bO [sv am.Field,sv am.Term,V3 bR bS bT]:=bQ
    refine kg m (rv_fieldAddr ff116_2 u) (kgh m (rq_load1 tf61 u (bV 2 _ u)) (kg m (rv_fieldAddr ff46_1 u) (kgh m (rq_loadm1 tf44 u m1 u) (kg m (rv_move u) ?_))))
    obtain⟨an,bW,bX⟩:=ob bM
    refine wq_indexAddr (t:=tGEntry) (wg u u m) u underlying44 tf116 u u (J.mono (G.trans s)) bW fun bY bZ cY ca cb=>?_
    obtain⟨cc,cd,ce,rfl,cZ,da,cf⟩:=ca
    have cg:AtK _ bY bZ [sv an.Field,sv an.Term,V3 cc cd ce]:=cb
    refine kg m (rv_fieldAddr ff116_2 u) (kgh m (rq_load1 tf61 u (cg 2 _ u)) ?_)
    obtain⟨db,ch,cj⟩:=ob bX
    refine kcg m co222 (fun _ _ ck ao=>(ok_laws_foPosts F) ck.enter0 (bU.mono ao) (cf.mono ao) ch) (kg m (rv_not u) (kv (rv_pick_f u m u) (wq_nil ?_)))
    rintro dc ⟨cl,cm,cn⟩
    cases oi cj
    exact qd ⟨cl,u,cm,cn⟩
   rintro _ dd ⟨ap,rfl,aq,cp⟩
   refine qe_seq (wcc aM u (fun cq ac=>?_) (fun cq ac=>?_))
   ·refine sr (lv (r_f u) (nq (wc_ret (qe_block_ret (qe_then_ret (qe_then_ret ?_))))))
    cases oi ac
    cases ag _ u
    refine qe_block_ret (qe_then_ret ?_)
    cases oi af
    refine qe_then_ret ?_
    cases oi T
    exact ey results176 ⟨ap,u,aq.s⟩
   refine wc_skip (qe_block (qe_seq (wc_region (mv u (lv (rv_add u u) (av u (wl_nil ?_)))))))
   cases oi ac
   exact qd ⟨_,u,ap,u,aq,(s.trans cp),(w64_rng _)⟩
  refine wc_exit (qe_then_exit (qe_then_exit ?_))
  cases oi Y
  cases ag _ u
  refine qe_block_eq ?_
  cases oi af
  exact qe_mid' ⟨_,ah,u,u,X.s,s⟩ trivial
 rintro _ de ⟨df,cr,rfl,rfl,cs,dg⟩
 have T:=elim_l T
 refine qr (lv (r_t u) (nq (wc_ret ?_)))
 cases oi T
 exact ey results176 ⟨cr,u,cs⟩

theorem ok_laws_foLive {q0:GLive}{q1:GLive}{r:Bool}(hS:SH w K [] w K [])(J:SliceAt tGDoc K A a b q0.Seg.Docs)(O:SliceAt tGEntry K B c d q0.Seg.Entries)(R:SliceAt tInt K C f i q0.Dead)(S:SliceAt tGDoc K D k l q1.Seg.Docs)(T:SliceAt tGEntry K G m n q1.Seg.Entries)(U:SliceAt tInt K H o p q1.Dead)(hm:M.laws_foLive F q0 q1=some r):
  Calls prog 112 #[.agg #[V3 A a b,V3 B c d,V3 C f i],.agg #[V3 D k l,V3 G m n,V3 H o p]] w (R_b w K r):=by
 rw [M.laws_foLive] at hm
 refine ci func112 u ntmps112 (sr (bx u hS fun V aj W=>?_))
 have X:SH _ _ _ _ _ [obj V [V3 A a b,V3 B c d,V3 C f i] 73]:=W
 refine bx u X fun Y ak aa=>?_
 have x:SH _ _ _ _ _ [obj Y [V3 D k l,V3 G m n,V3 H o p] 73,_]:=aa
 refine lv (r_f u) (nr (fa ff73_0 u (lv (rv_loadmS (ds:=[V3 A a b,V3 B c d]) tf46 u m1 x u u) (fa ff73_0 u (lv (rv_loadmS (ds:=[V3 D k l,V3 G m n]) tf46 u m0 x u u) ?_)))))
 obtain⟨al,ab,ac⟩:=ob hm
 refine lk co176 (ok_laws_foSeg F x.enter0 J O S T ab) ?_
 rintro am an ⟨ad,rfl,y⟩
 have s:=(x.c0 y).t2
 refine mv u (bt ac (fun q I=>?_) (fun q I=>?_))
 ·refine lg q (rv_fieldAddr ff73_1 u) (lg q (rv_loadm1 tf71 u m1 s u) (lg q (rv_fieldAddr ff73_1 u) (lg q (rv_loadm1 tf71 u m0 s u) ?_)))
  obtain⟨ao,ae,af⟩:=ob I
  refine wl_call (wg u u q) u (rt_call (vs:=[V3 C f i,V3 H o p]) co177 u) (ok_laws_foInts F s.enter0 (R.mono y.le) (U.mono y.le) ae) ?_
  rintro ap aq ⟨ag,rfl,ah⟩
  refine⟨_,u,?_⟩
  have ai:=(s.c0 ah).t2
  refine lv (rv_pick_t u q u) (av u (nq (wc_ret ?_)))
  cases oi af
  exact ey results112 ⟨ag,u,ai.s⟩
 iterate 5 refine lu q ?_
 refine lv (p_f u q u) (av u (nq (wc_ret ?_)))
 cases oi I
 exact ey results112 ⟨ad,u,s.s⟩

theorem ok_laws_foIndex {q0:GIndex}{q1:GIndex}{r:Bool}(hS:SH w K [] w K [])(ak:SliceAt tStr K A a b q0.Conf.Stops)(al:SliceAt tGSyn K B c d q0.Conf.Syns)(U:SliceAt tGLive K C f i q0.Segs)(am:SliceAt tStr K D k l q1.Conf.Stops)(an:SliceAt tGSyn K G m n q1.Conf.Syns)(ad:SliceAt tGLive K H o p q1.Segs)(hm:M.laws_foIndex F q0 q1=some r):
  Calls prog 49 #[.agg #[V3 A a b,V3 B c d,V3 C f i],.agg #[V3 D k l,V3 G m n,V3 H o p]] w (R_b w K r):=by
 rw [M.laws_foIndex] at hm
 refine ci func49 u ntmps49 (sr (bx u hS fun x bD ao=>?_))
 have ap:SH _ _ _ _ _ [obj x [V3 A a b,V3 B c d,V3 C f i] 36]:=ao
 refine bx u ap fun y bE aq=>?_
 have O:SH _ _ _ _ _ [obj y [V3 D k l,V3 G m n,V3 H o p] 36,_]:=aq
 refine lv (r_f u) (ns (wc_seq ?_))
 obtain⟨ar,au,aw⟩:=ob hm
 refine wc_cutg (IV w K [] K [(2,pt x),(3,pt y),(20,.bool ar)] [obj x [V3 A a b,V3 B c d,V3 C f i] 36,obj y [V3 D k l,V3 G m n,V3 H o p] 36]) ?_ ?_
 ·refine wc_region (fa ff36_0 u (lv (rv_loadmS (ds:=[V3 A a b,V3 B c d]) tf33 u m1 O u u) (fa ff36_0 u (lv (rv_loadmS (ds:=[V3 D k l,V3 G m n]) tf33 u m0 O u u) ?_))))
  obtain⟨bF,ax,ay⟩:=ob au
  refine lk co111 (ok_laws_foConf F O.enter0 ak al am an ax) ?_
  rintro bG bH ⟨ae,rfl,I⟩
  have R:=(O.c0 I).t2
  refine lv (rv_not u) (mv u (bt ay (fun q V=>?_) (fun q V=>?_)))
  ·iterate 7 refine lu q ?_
   refine lv (p_t u q u) (wl_nil ?_)
   cases oi V
   exact qd ⟨ae,u,R.f1,I.le⟩
  refine lg q (rv_fieldAddr ff36_1 u) (lg q (rv_loadm1 tf34 u m1 R u) (lg q (rv_len underlying34 u (U.mono I.le)) (lg q (rv_fieldAddr ff36_1 u) (lg q (rv_loadm1 tf34 u m0 R u) (lg q (rv_len underlying34 u (ad.mono I.le)) (lg q (rv_neq u u) (lv (rv_pick_f u q u) (wl_nil ?_))))))))
  cases oi V
  exact qd ⟨ae,u,R.f1,I.le⟩
 rintro _ bI ⟨S,rfl,af,W⟩
 refine qe_seq (wcc aw u (fun az X=>?_) (fun az X=>?_))
 ·refine sr (lv (r_f u) (nq (rr ?_)))
  cases oi X
  exact ey results49 ⟨S,u,af.s⟩
 refine wc_skip (qs (sr (lv (r_0 u) (nq ?_))))
 obtain⟨aA,aB,T⟩:=ob X
 refine wc_cutg (IE aA w K [] S [] []) ?_ ?_
 ·refine wc_block ?_
  obtain⟨bJ,aC,ag⟩:=ob aB
  refine qw (fun (Y:Int)=>IW w K [] S [(2,pt x),(3,pt y),(5,V6 Y)] [obj x [V3 A a b,V3 B c d,V3 C f i] 36,obj y [V3 D k l,V3 G m n,V3 H o p] 36] (rng64 Y)) aC ⟨S,u,af,kr,d_0⟩ ?_
  rintro Y _ bK bL aD ah ⟨aE,rfl,aa,J,bM⟩
  refine wc_seq (sr (mv u (fl ff36_1 u tf34 m0 aa u (lv (rv_len underlying34 u (U.mono (W.trans J))) (lv (rv_lss u u) (nq (wcc aD u (fun aF ab=>?_) (fun aF ab=>?_))))))))
  ·refine wc_skip (qs (wc_block (wc_seq (wc_quiet mixed (by kernel_rfl) aa (kv (rv_fieldAddr ff36_1 u) (kh (rq_loadm1 tf34 u m0 u) (km u ?_)))))))
   obtain⟨bN,aG,aH⟩:=ob ab
   refine ki underlying34 tf73 (U.mono (W.trans J)) aG fun aI aJ bO aK aL=>?_
   obtain⟨aM,aN,aO,aP,aQ,aR,aS,aT,aU,rfl,aV,aW,aX⟩:=aK
   have aY:AtK _ aI aJ [V3 aM aN aO,V3 aP aQ aR,V3 aS aT aU]:=aL
   refine kh (rq_loadS tf73 u aY u) (kv (rv_fieldAddr ff36_1 u) (kh (rq_loadm1 tf34 u m1 u) (km u ?_)))
   obtain⟨bP,aZ,ba⟩:=ob aH
   refine ki underlying34 tf73 (ad.mono (W.trans J)) aZ fun bb bc bQ bd be=>?_
   obtain⟨bf,bg,bh,bi,bj,bk,bl,bm,bn,rfl,bo,bp,bq⟩:=bd
   have br:AtK _ bb bc [V3 bf bg bh,V3 bi bj bk,V3 bl bm bn]:=be
   refine kh (rq_loadS tf73 u br u) ?_
   obtain⟨bR,bs,bu⟩:=ob ba
   refine kc co112 (fun _ _ bv s=>(ok_laws_foLive F) bv.enter0 (aV.mono s) (aW.mono s) (aX.mono s) (bo.mono s) (bp.mono s) (bq.mono s) bs) (kv (rv_not u) (wq_nil ?_))
   rintro bS ⟨ai,aj,bz⟩
   refine qe_seq (wcc bu u (fun bA ac=>?_) (fun bA ac=>?_))
   ·refine sr (lv (r_f u) (nq (wc_ret (qe_block_ret (qe_then_ret (qe_then_ret ?_))))))
    cases oi ac
    cases ah _ u
    refine qe_block_ret (qe_then_ret ?_)
    cases oi ag
    refine qe_then_ret ?_
    cases oi T
    exact ey results49 ⟨ai,u,aj.s⟩
   refine wc_skip (qe_block (qe_seq (wc_region (mv u (lv (rv_add u u) (av u (wl_nil ?_)))))))
   cases oi ac
   exact qd ⟨_,u,ai,u,aj,(J.trans bz),(w64_rng _)⟩
  refine wc_exit (qe_then_exit (qe_then_exit ?_))
  cases oi ab
  cases ah _ u
  refine qe_block_eq ?_
  cases oi ag
  exact qe_mid' ⟨_,aE,u,u,aa.s,J⟩ trivial
 rintro _ bT ⟨bU,bB,rfl,rfl,bC,bV⟩
 have T:=elim_l T
 refine qr (lv (r_t u) (nq (wc_ret ?_)))
 cases oi T
 exact ey results49 ⟨bB,u,bC⟩

theorem ok_laws_FnIndexMerge {q0:List UInt8}{r:Bool}(hS:SH w K [] w K [])(aW:SliceAt tU8 K A a b q0)(hm:M.laws_FnIndexMerge F q0=some r):
  Calls prog 8 #[V3 A a b] w (R_b w K r):=by
 rw [M.laws_FnIndexMerge] at hm
 refine ci func8 u ntmps8 (sr (lv (r_f u) (nsr (mv u (lv (rv_len underlying69 u aW) (lv (rv_gtr u u) (nq (wc_cond u (fun aJ=>?_) (fun aJ=>?_)))))))))
 ·have h6:=cond_t aJ hm
  refine sr (lv (r_t u) (nq (rr ?_)))
  cases oi h6
  exact ey results8 ⟨K,u,hS⟩
 have h6:=cond_f aJ hm
 refine wc_skip (qr (mv u ?_))
 obtain⟨r7,bh,h9⟩:=ob h6
 refine lk co46 (ok_spec_DrawIndexMerge F hS.enter0 aW bh) ?_
 rintro cL cM ⟨T,U,V,W,X,Y,aa,ab,ac,cN,rfl,bj,az,aA,aj,aX⟩
 have bk:=(hS.c0 bj).t1
 refine mv u (lv (rv_extract u u) (lv (rv_extract u u) (al tf36 bk fun ak cO bl=>?_)))
 have bm:SH _ _ _ _ _ [obj ak [V3 none 0 0,V3 none 0 0,V3 none 0 0] 36,_]:=bl
 refine lw [V3 T U V,V3 W X Y,V3 aa ab ac] tf36 bm fun cP aL=>(av u (nr (lv (rv_loadmS (ds:=[V3 T U V,V3 W X Y,V3 aa ab ac]) tf36 u m0 aL u u) (mv u ?_))))
 obtain⟨bn,bo,bp⟩:=ob h9
 refine lk co47 (ok_impl_IndexMerge F aL.enter0 az aA aj aX bo) ?_
 rintro cQ cR ⟨y,B,C,D,G,H,I,J,O,cS,rfl,R,aB,aC,ai⟩
 have bq:=(aL.c0 R).t3
 refine mv u (lv (rv_extract u u) (lv (rv_extract u u) (al tf36 bq fun ah cT br=>?_)))
 have bs:SH _ _ _ _ _ [obj ah [V3 none 0 0,V3 none 0 0,V3 none 0 0] 36,_,_,_]:=br
 refine lw [V3 y B C,V3 D G H,V3 I J O] tf36 bs fun cU aM=>(av u (nr (lv (rv_loadmS (ds:=[V3 T U V,V3 W X Y,V3 aa ab ac]) tf36 u m2 aM u u) (mv u ?_))))
 obtain⟨bu,bv,bx⟩:=ob bp
 refine lk co48 (ok_spec_IndexMerge F aM.enter0 (az.mono R.le) (aA.mono R.le) (aj.mono R.le) aX bv) ?_
 rintro cV cW ⟨am,an,ao,ap,aq,ar,au,aw,ax,aY,rfl,l,aZ,ba,bb⟩
 have bz:=(aM.c0 l).t5
 refine mv u (lv (rv_extract u u) (lv (rv_extract u u) (al tf36 bz fun aN cX bA=>?_)))
 have bB:SH _ _ _ _ _ [obj aN [V3 none 0 0,V3 none 0 0,V3 none 0 0] 36,_,_,_,_,_]:=bA
 refine lw [V3 am an ao,V3 ap aq ar,V3 au aw ax] tf36 bB fun cY aD=>(av u (ns (wc_seq ?_)))
 obtain⟨bC,bD,bE⟩:=ob bx
 refine wc_cutg (IV w K [] aY [(3,pt ak),(4,V6 r7.2),(5,pt ah),(6,.bool bn.2),(7,pt aN),(8,.bool bu.2),(42,.bool bC)] [obj ak [V3 T U V,V3 W X Y,V3 aa ab ac] 36,obj ah [V3 y B C,V3 D G H,V3 I J O] 36,obj aN [V3 am an ao,V3 ap aq ar,V3 au aw ax] 36]) ?_ ?_
 ·refine wc_region (mv u (mv u (lv (rv_boolne underlying4 u u) (mv u (bt bD (fun ad aO=>?_) (fun ad aO=>?_))))))
  ·refine lu ad (lu ad (lu ad (lu ad (lv (p_t u ad u) (mv u (lu u (lu u (lu u (lv (p_t u u u) ?_)))))))))
   refine wl_nil ?_
   cases oi aO
   exact qd ⟨aY,u,aD.f2.f4.s,kr⟩
  refine lg ad (rv_loadmS (ds:=[V3 y B C,V3 D G H,V3 I J O]) tf36 u m2 aD u u) (lg ad (rv_loadmS (ds:=[V3 am an ao,V3 ap aq ar,V3 au aw ax]) tf36 u m0 aD u u) ?_)
  obtain⟨cZ,bF,bG⟩:=ob aO
  refine wl_call (wg u u ad) u (rt_call (vs:=[.agg #[V3 y B C,V3 D G H,V3 I J O],.agg #[V3 am an ao,V3 ap aq ar,V3 au aw ax]]) co49 u) (ok_laws_foIndex F aD.enter0 (aB.mono l.le) (aC.mono l.le) (ai.mono l.le) aZ ba bb bF) ?_
  rintro da db ⟨bH,rfl,ay⟩
  refine⟨_,u,?_⟩
  have aH:=(aD.c0 ay).t6
  refine lg ad (rv_not u) (lv (rv_pick_f u ad u) (mv u (bt bG (fun af aP=>?_) (fun af aP=>?_))))
  ·refine lu af (lu af (lu af (lv (p_t u af u) (wl_nil ?_))))
   cases oi aP
   exact qd ⟨bH,u,aH.f2.f4.s,ay.le⟩
  refine lg af (rv_loadmS (ds:=[V3 T U V,V3 W X Y,V3 aa ab ac]) tf36 u m4 aH u u) ?_
  obtain⟨dc,bI,bJ⟩:=ob aP
  refine wl_call (wg u u af) u (rt_call (vs:=[.agg #[V3 T U V,V3 W X Y,V3 aa ab ac]]) co14 u) (ok_impl_IndexOk F aH.enter0 (az.mono ((R.le.trans l.le).trans ay.le)) (aA.mono ((R.le.trans l.le).trans ay.le)) (aj.mono ((R.le.trans l.le).trans ay.le)) bI) ?_
  rintro dd de ⟨bK,rfl,bc⟩
  refine⟨_,u,?_⟩
  have bL:=(aH.c0 bc).t6
  refine lg af (rv_not u) (lv (rv_pick_f u af u) (wl_nil ?_))
  cases oi bJ
  exact qd ⟨bK,u,bL.f2.f4.s,(ay.le.trans bc.le)⟩
 rintro _ df ⟨aI,rfl,ae,q⟩
 refine qe_seq (wcc bE u (fun bM aQ=>?_) (fun bM aQ=>?_))
 ·refine wc_seq ?_
  obtain⟨bN,bO,bP⟩:=ob aQ
  refine wc_cutg (IV w K [] aI [(2,.bool bN)] []) ?_ ?_
  ·refine wc_region (mv u (mv u (lv (rv_booleq underlying4 u u) (mv u (bt bO (fun ag aR=>?_) (fun ag aR=>?_))))))
   ·refine lg ag (rv_loadmS (ds:=[V3 y B C,V3 D G H,V3 I J O]) tf36 u m1 ae u u) (lg ag (rv_loadmS (ds:=[V3 am an ao,V3 ap aq ar,V3 au aw ax]) tf36 u m2 ae u u) ?_)
    obtain⟨dg,bQ,bR⟩:=ob aR
    refine wl_call (wg u u ag) u (rt_call (vs:=[.agg #[V3 y B C,V3 D G H,V3 I J O],.agg #[V3 am an ao,V3 ap aq ar,V3 au aw ax]]) co49 u) (ok_laws_foIndex F ae.enter0 (aB.mono (l.le.trans q)) (aC.mono (l.le.trans q)) (ai.mono (l.le.trans q)) (aZ.mono q) (ba.mono q) (bb.mono q) bQ) ?_
    rintro dh di ⟨bS,rfl,bd⟩
    refine⟨_,u,?_⟩
    have bT:=(ae.c0 bd).t3
    refine lv (rv_pick_t u ag u) (av u (wl_nil ?_))
    cases oi bR
    exact qd ⟨bS,u,bT.s,bd.le⟩
   refine lu ag (lu ag (lu ag (lv (p_f u ag u) (av u (wl_nil ?_)))))
   cases oi aR
   exact qd ⟨aI,u,ae.s,kr⟩
  rintro _ dj ⟨bU,rfl,bV,dk⟩
  refine qe_seq (rr ?_)
  cases oi bP
  exact ey results8 ⟨bU,u,bV⟩
 refine wc_skip (qs (sr (mv u (lv (rv_not u) (nq (wcc aQ u (fun bW aS=>?_) (fun bW aS=>?_)))))))
 ·refine sr (lv (rv_loadmS (ds:=[V3 y B C,V3 D G H,V3 I J O]) tf36 u m1 ae u u) (lv (rv_loadmS (ds:=[V3 T U V,V3 W X Y,V3 aa ab ac]) tf36 u m0 ae u u) ?_))
  obtain⟨dl,bX,bY⟩:=ob aS
  refine lk co49 (ok_laws_foIndex F ae.enter0 (aB.mono (l.le.trans q)) (aC.mono (l.le.trans q)) (ai.mono (l.le.trans q)) (az.mono ((R.le.trans l.le).trans q)) (aA.mono ((R.le.trans l.le).trans q)) (aj.mono ((R.le.trans l.le).trans q)) bX) ?_
  rintro dm dn ⟨bZ,rfl,ca⟩
  have cb:=(ae.c0 ca).t3
  refine av u (nq (rr ?_))
  cases oi bY
  exact ey results8 ⟨bZ,u,cb.s⟩
 refine wc_skip (qs (wc_held (fun w'=>Holds aI w'∧HasObj ah [V3 y B C,V3 D G H,V3 I J O] w'∧HasObj ak [V3 T U V,V3 W X Y,V3 aa ab ac] w') (fun w'=>True) 30 [] mixed ?_))
 have aE:=ae.drew
 refine wg_val (i:=0) (listed':=L_ 30 0) (HasObj ah [V3 y B C,V3 D G H,V3 I J O]) u (by kernel_rfl) (pk_then pk_body) (by kernel_rfl) u (by kernel_rfl) (by kernel_rfl) u (.inl fun _ h=>h.2.1) ⟨⟨aE.hasK kr,aE.hasObj m1,aE.hasObj m0⟩,(fun _=>trivial),by decide⟩ wn u (fun _ h=>rh_loadmS (ds:=[V3 y B C,V3 D G H,V3 I J O]) tf36 u u u h) (wg_one (i:=1) (by kernel_rfl) u ?_)
 obtain⟨dp,cc,cd⟩:=ob aS
 refine lk co14 (ok_impl_IndexOk F aE.enter0 (aB.mono (l.le.trans q)) (aC.mono (l.le.trans q)) (ai.mono (l.le.trans q)) cc) ?_
 rintro dq dr ⟨be,rfl,d⟩
 have c:=(aE.c0 d).t3
 refine wl_nil (qe_held (listed':=L_ 30 1) u ⟨⟨c.hasK d.le,c.hasObj m1,c.hasObj m0⟩,(fun _=>trivial),by decide⟩ (wg_val (i:=2) (listed':=L_ 30 2) (fun _=>True) u (by kernel_rfl) (pk_then pk_body) (by kernel_rfl) u (by kernel_rfl) (by kernel_rfl) u (.inl fun _ _=>trivial) ⟨⟨c.hasK d.le,c.hasObj m1,c.hasObj m0⟩,(fun _=>trivial),by decide⟩ wn u (fun _ _=>(rv_move u)) (bt cd (fun s aT=>?_) (fun s aT=>?_))))
 ·refine wg_val (i:=3) (listed':=L_ 30 3) (fun _=>True) u (by kernel_rfl) (pk_then pk_body) (by kernel_rfl) u (by kernel_rfl) (by kernel_rfl) u (.inl fun _ _=>trivial) ⟨⟨c.hasK d.le,c.hasObj m1,c.hasObj m0⟩,(fun _=>trivial),by decide⟩ (wg u u s) u (fun _ _=>(rv_fieldAddr ff36_1 u)) (wg_val (i:=4) (listed':=L_ 30 4) (HasObj ah [V3 y B C,V3 D G H,V3 I J O]) u (by kernel_rfl) (pk_then pk_body) (by kernel_rfl) u (by kernel_rfl) (by kernel_rfl) u (.inl fun _ h=>h.2.1) ⟨⟨c.hasK d.le,c.hasObj m1,c.hasObj m0⟩,(fun _=>trivial),by decide⟩ (wg u u s) u (fun _ h=>rh_loadm1 tf34 u u h) ?_)
  refine wg_val (i:=5) (listed':=L_ 30 5) (fun _=>True) u (by kernel_rfl) (pk_then pk_body) (by kernel_rfl) u (by kernel_rfl) (by kernel_rfl) u (.inl fun _ _=>trivial) ⟨⟨c.hasK d.le,c.hasObj m1,c.hasObj m0⟩,(fun _=>trivial),by decide⟩ (wg u u s) u (fun _ _=>(rv_len underlying34 u (ai.mono ((l.le.trans q).trans d.le)))) (wg_val (i:=6) (listed':=L_ 30 6) (fun _=>True) u (by kernel_rfl) (pk_then pk_body) (by kernel_rfl) u (by kernel_rfl) (by kernel_rfl) u (.inl fun _ _=>trivial) ⟨⟨c.hasK d.le,c.hasObj m1,c.hasObj m0⟩,(fun _=>trivial),by decide⟩ (wg u u s) u (fun _ _=>(rv_fieldAddr ff36_1 u)) ?_)
  refine wg_val (i:=7) (listed':=L_ 30 7) (HasObj ak [V3 T U V,V3 W X Y,V3 aa ab ac]) u (by kernel_rfl) (pk_then pk_body) (by kernel_rfl) u (by kernel_rfl) (by kernel_rfl) u (.inl fun _ h=>h.2.2) ⟨⟨c.hasK d.le,c.hasObj m1,c.hasObj m0⟩,(fun _=>trivial),by decide⟩ (wg u u s) u (fun _ h=>rh_loadm1 tf34 u u h) (wg_val (i:=8) (listed':=L_ 30 8) (fun _=>True) u (by kernel_rfl) (pk_then pk_body) (by kernel_rfl) u (by kernel_rfl) (by kernel_rfl) u (.inl fun _ _=>trivial) ⟨⟨c.hasK d.le,c.hasObj m1,c.hasObj m0⟩,(fun _=>trivial),by decide⟩ (wg u u s) u (fun _ _=>(rv_len underlying34 u (SliceAt.mono (((R.le.trans l.le).trans q).trans d.le) aj))) ?_)
  refine wg_val (i:=9) (listed':=L_ 30 9) (fun _=>True) u (by kernel_rfl) (pk_then pk_body) (by kernel_rfl) u (by kernel_rfl) (by kernel_rfl) u (.inl fun _ _=>trivial) ⟨⟨c.hasK d.le,c.hasObj m1,c.hasObj m0⟩,(fun _=>trivial),by decide⟩ (wg u u s) u (fun _ _=>(rv_sub u u)) (wg_val (i:=10) (listed':=L_ 30 10) (fun _=>True) u (by kernel_rfl) (pk_then pk_body) (by kernel_rfl) u (by kernel_rfl) (by kernel_rfl) u (.inl fun _ _=>trivial) ⟨⟨c.hasK d.le,c.hasObj m1,c.hasObj m0⟩,(fun _=>trivial),by decide⟩ (wg u u s) u (fun _ _=>(rv_eql u u)) ?_)
  refine wg_val (i:=11) (listed':=L_ 30 11) (fun _=>True) u (by kernel_rfl) (pk_then pk_body) (by kernel_rfl) u (by kernel_rfl) (by kernel_rfl) u (.inl fun _ _=>trivial) ⟨⟨c.hasK d.le,c.hasObj m1,c.hasObj m0⟩,(fun _=>trivial),by decide⟩ wn u (fun _ _=>(rv_pick_t u s u)) (wg_val (i:=12) (listed':=L_ 30 12) (fun _=>True) u (by kernel_rfl) (pk_then pk_body) (by kernel_rfl) u (by kernel_rfl) (by kernel_rfl) u (.inl fun _ _=>trivial) ⟨⟨c.hasK d.le,c.hasObj m1,c.hasObj m0⟩,(fun _=>trivial),by decide⟩ wn u (fun _ _=>(rv_move u)) (bt aT (fun S aU=>?_) (fun S aU=>?_)))
  ·refine wg_val (i:=13) (listed':=L_ 30 13) (HasObj ah [V3 y B C,V3 D G H,V3 I J O]) u (by kernel_rfl) (pk_then pk_body) (by kernel_rfl) u (by kernel_rfl) (by kernel_rfl) u (.inl fun _ h=>h.2.1) ⟨⟨c.hasK d.le,c.hasObj m1,c.hasObj m0⟩,(fun _=>trivial),by decide⟩ (wg u u S) u (fun _ h=>rh_loadmS (ds:=[V3 y B C,V3 D G H,V3 I J O]) tf36 u u u h) (wg_val (i:=15) (listed':=#[true,true,true,true,true,true,true,true,true,true,true,true,true,true,false,true,false,false,false,false,false,false,false,false,false,false,false,false,false,false]) (HasObj ak [V3 T U V,V3 W X Y,V3 aa ab ac]) u (by kernel_rfl) (pk_then pk_body) (by kernel_rfl) u (by kernel_rfl) (by kernel_rfl) u (.inl fun _ h=>h.2.2) ⟨⟨c.hasK d.le,c.hasObj m1,c.hasObj m0⟩,(fun _=>trivial),by decide⟩ (wg u u S) u (fun _ h=>rh_loadmS (ds:=[V3 T U V,V3 W X Y,V3 aa ab ac]) tf36 u u u h) (wg_one (i:=14) (by kernel_rfl) u ?_))
   obtain⟨dt,ce,cf⟩:=ob aU
   refine wl_call (wg u u S) u (rt_call (vs:=[.agg #[V3 y B C,V3 D G H,V3 I J O]]) co37 u) (ok_impl_IndexDocs F c.enter0 (aB.mono ((l.le.trans q).trans d.le)) (aC.mono ((l.le.trans q).trans d.le)) (ai.mono ((l.le.trans q).trans d.le)) ce) ?_
   rintro du dv ⟨cg,ch,cj,dw,rfl,k,ck⟩
   refine⟨_,u,?_⟩
   have aF:=(c.c0 k).t4
   refine wl_nil (qe_held (listed':=L_ 30 15) u ⟨⟨aF.hasK (d.le.trans k.le),aF.hasObj m2,aF.hasObj m1⟩,(fun _=>trivial),by decide⟩ (wg_one (i:=16) (by kernel_rfl) u ?_))
   obtain⟨dx,cl,cm⟩:=ob cf
   refine wl_call (wg u u S) u (rt_call (vs:=[.agg #[V3 T U V,V3 W X Y,V3 aa ab ac]]) co37 u) (ok_impl_IndexDocs F aF.enter0 (SliceAt.mono ((((R.le.trans l.le).trans q).trans d.le).trans k.le) az) (SliceAt.mono ((((R.le.trans l.le).trans q).trans d.le).trans k.le) aA) (SliceAt.mono ((((R.le.trans l.le).trans q).trans d.le).trans k.le) aj) cl) ?_
   rintro dy dz ⟨cn,cp,cq,dA,rfl,m,cr⟩
   refine⟨_,u,?_⟩
   have aG:=(aF.c0 m).t5
   refine wl_nil (qe_held (listed':=L_ 30 16) u ⟨⟨aG.hasK ((d.le.trans k.le).trans m.le),aG.hasObj m3,aG.hasObj m2⟩,(fun _=>trivial),by decide⟩ (wg_one (i:=17) (by kernel_rfl) u ?_))
   obtain⟨dB,cs,ct⟩:=ob cm
   refine wl_call (wg u u S) u (rt_call (vs:=[V3 cg ch cj,V3 cn cp cq]) co41 u) (ok_laws_foDocs F aG.enter0 (ck.mono m.le) cr cs) ?_
   rintro dC dD ⟨bf,rfl,o⟩
   refine⟨_,u,?_⟩
   have f:=(aG.c0 o).t5
   refine wl_nil (qe_held (listed':=L_ 30 17) u ⟨⟨f.hasK (((d.le.trans k.le).trans m.le).trans o.le),f.hasObj m3,f.hasObj m2⟩,(fun _=>trivial),by decide⟩ (wg_val (i:=18) (listed':=L_ 30 18) (fun _=>True) u (by kernel_rfl) (pk_then pk_body) (by kernel_rfl) u (by kernel_rfl) (by kernel_rfl) u (.inl fun _ _=>trivial) ⟨⟨f.hasK (((d.le.trans k.le).trans m.le).trans o.le),f.hasObj m3,f.hasObj m2⟩,(fun _=>trivial),by decide⟩ wn u (fun _ _=>(rv_pick_t u S u)) ?_))
   refine wg_val (i:=19) (listed':=L_ 30 19) (fun _=>True) u (by kernel_rfl) (pk_then pk_body) (by kernel_rfl) u (by kernel_rfl) (by kernel_rfl) u (.inl fun _ _=>trivial) ⟨⟨f.hasK (((d.le.trans k.le).trans m.le).trans o.le),f.hasObj m3,f.hasObj m2⟩,(fun _=>trivial),by decide⟩ wn u (fun _ _=>(rv_move u)) (bt ct (fun x aV=>?_) (fun x aV=>?_))
   ·refine wg_val (i:=20) (listed':=L_ 30 20) (fun _=>True) u (by kernel_rfl) (pk_then pk_body) (by kernel_rfl) u (by kernel_rfl) (by kernel_rfl) u (.inl fun _ _=>trivial) ⟨⟨f.hasK (((d.le.trans k.le).trans m.le).trans o.le),f.hasObj m3,f.hasObj m2⟩,(fun _=>trivial),by decide⟩ (wg u u x) u (fun _ _=>(rv_fieldAddr ff36_1 u)) (wg_val (i:=21) (listed':=L_ 30 21) (HasObj ah [V3 y B C,V3 D G H,V3 I J O]) u (by kernel_rfl) (pk_then pk_body) (by kernel_rfl) u (by kernel_rfl) (by kernel_rfl) u (.inl fun _ h=>h.2.1) ⟨⟨f.hasK (((d.le.trans k.le).trans m.le).trans o.le),f.hasObj m3,f.hasObj m2⟩,(fun _=>trivial),by decide⟩ (wg u u x) u (fun _ h=>rh_loadm1 tf34 u u h) ?_)
    refine wg_val (i:=22) (listed':=L_ 30 22) (fun _=>True) u (by kernel_rfl) (pk_then pk_body) (by kernel_rfl) u (by kernel_rfl) (by kernel_rfl) u (.inl fun _ _=>trivial) ⟨⟨f.hasK (((d.le.trans k.le).trans m.le).trans o.le),f.hasObj m3,f.hasObj m2⟩,(fun _=>trivial),by decide⟩ (wg u u x) u (fun _ _=>(rv_move u)) ?_
    obtain⟨dE,cu,cv⟩:=ob aV
    refine wg_indexAddr (t:=tGLive) (j:=23) (listed':=L_ 30 23) u (by kernel_rfl) (pk_then pk_body) (by kernel_rfl) u (by kernel_rfl) (by kernel_rfl) u ⟨⟨f.hasK (((d.le.trans k.le).trans m.le).trans o.le),f.hasObj m3,f.hasObj m2⟩,(fun _=>trivial),by decide⟩ (wg u u x) u underlying34 tf73 u u (ai.mono (l.le.trans q)) cu fun cw cx dF cy cz=>?_
    obtain⟨cA,cB,cC,cD,cE,cF,cG,cH,cI,rfl,dG,dH,cJ⟩:=cy
    have cK:AtK _ cw cx [V3 cA cB cC,V3 cD cE cF,V3 cG cH cI]:=cz
    refine wg_val (i:=24) (listed':=L_ 30 24) (fun _=>True) u (by kernel_rfl) (pk_then pk_body) (by kernel_rfl) u (by kernel_rfl) (by kernel_rfl) u (.inl fun _ _=>trivial) ⟨⟨f.hasK (((d.le.trans k.le).trans m.le).trans o.le),f.hasObj m3,f.hasObj m2⟩,(fun _=>trivial),by decide⟩ (wg u u x) u (fun _ _=>(rv_fieldAddr ff73_1 u)) (wg_val (i:=25) (listed':=L_ 30 25) (Holds aI) u (by kernel_rfl) (pk_then pk_body) (by kernel_rfl) u (by kernel_rfl) (by kernel_rfl) u (.inl fun _ h=>h.1) ⟨⟨f.hasK (((d.le.trans k.le).trans m.le).trans o.le),f.hasObj m3,f.hasObj m2⟩,(fun _=>trivial),by decide⟩ (wg u u x) u (fun _ h=>rh_load1 tf71 u (cK 2 _ u) h) ?_)
    refine wg_val (i:=26) (listed':=L_ 30 26) (fun _=>True) u (by kernel_rfl) (pk_then pk_body) (by kernel_rfl) u (by kernel_rfl) (by kernel_rfl) u (.inl fun _ _=>trivial) ⟨⟨f.hasK (((d.le.trans k.le).trans m.le).trans o.le),f.hasObj m3,f.hasObj m2⟩,(fun _=>trivial),by decide⟩ (wg u u x) u (fun _ _=>(rv_len underlying71 u (SliceAt.mono (((d.le.trans k.le).trans m.le).trans o.le) cJ))) (wg_val (i:=27) (listed':=L_ 30 27) (fun _=>True) u (by kernel_rfl) (pk_then pk_body) (by kernel_rfl) u (by kernel_rfl) (by kernel_rfl) u (.inl fun _ _=>trivial) ⟨⟨f.hasK (((d.le.trans k.le).trans m.le).trans o.le),f.hasObj m3,f.hasObj m2⟩,(fun _=>trivial),by decide⟩ (wg u u x) u (fun _ _=>(rv_eql u u)) ?_)
    refine wg_val (i:=28) (listed':=L_ 30 28) (fun _=>True) u (by kernel_rfl) (pk_then pk_body) (by kernel_rfl) u (by kernel_rfl) (by kernel_rfl) u (.inl fun _ _=>trivial) ⟨⟨f.hasK (((d.le.trans k.le).trans m.le).trans o.le),f.hasObj m3,f.hasObj m2⟩,(fun _=>trivial),by decide⟩ wn u (fun _ _=>(rv_pick_t u x u)) (wg_val (i:=29) (listed':=L_ 30 29) (fun _=>True) u (by kernel_rfl) (pk_then pk_body) (by kernel_rfl) u (by kernel_rfl) (by kernel_rfl) u (.inl fun _ _=>trivial) ⟨⟨f.hasK (((d.le.trans k.le).trans m.le).trans o.le),f.hasObj m3,f.hasObj m2⟩,(fun _=>trivial),by decide⟩ wn u (fun _ _=>(rv_assign u)) (wg_done (by kernel_rfl) (qe_seq (wc_ret ?_))))
    cases oi cv
    exact ey results8 ⟨bf,u,f.s⟩
   refine wg_un (i:=20) (listed':=L_ 30 20) u (by kernel_rfl) (pk_then pk_body) (by kernel_rfl) u (by kernel_rfl) (by kernel_rfl) u ⟨⟨f.hasK (((d.le.trans k.le).trans m.le).trans o.le),f.hasObj m3,f.hasObj m2⟩,(fun _=>trivial),by decide⟩ (ug u u x) u (wg_un (i:=21) (listed':=L_ 30 21) u (by kernel_rfl) (pk_then pk_body) (by kernel_rfl) u (by kernel_rfl) (by kernel_rfl) u ⟨⟨f.hasK (((d.le.trans k.le).trans m.le).trans o.le),f.hasObj m3,f.hasObj m2⟩,(fun _=>trivial),by decide⟩ (ug u u x) u ?_)
   refine wg_un (i:=22) (listed':=L_ 30 22) u (by kernel_rfl) (pk_then pk_body) (by kernel_rfl) u (by kernel_rfl) (by kernel_rfl) u ⟨⟨f.hasK (((d.le.trans k.le).trans m.le).trans o.le),f.hasObj m3,f.hasObj m2⟩,(fun _=>trivial),by decide⟩ (ug u u x) u (wg_un (i:=23) (listed':=L_ 30 23) u (by kernel_rfl) (pk_then pk_body) (by kernel_rfl) u (by kernel_rfl) (by kernel_rfl) u ⟨⟨f.hasK (((d.le.trans k.le).trans m.le).trans o.le),f.hasObj m3,f.hasObj m2⟩,(fun _=>trivial),by decide⟩ (ug u u x) u ?_)
   refine wg_un (i:=24) (listed':=L_ 30 24) u (by kernel_rfl) (pk_then pk_body) (by kernel_rfl) u (by kernel_rfl) (by kernel_rfl) u ⟨⟨f.hasK (((d.le.trans k.le).trans m.le).trans o.le),f.hasObj m3,f.hasObj m2⟩,(fun _=>trivial),by decide⟩ (ug u u x) u (wg_un (i:=25) (listed':=L_ 30 25) u (by kernel_rfl) (pk_then pk_body) (by kernel_rfl) u (by kernel_rfl) (by kernel_rfl) u ⟨⟨f.hasK (((d.le.trans k.le).trans m.le).trans o.le),f.hasObj m3,f.hasObj m2⟩,(fun _=>trivial),by decide⟩ (ug u u x) u ?_)
   refine wg_un (i:=26) (listed':=L_ 30 26) u (by kernel_rfl) (pk_then pk_body) (by kernel_rfl) u (by kernel_rfl) (by kernel_rfl) u ⟨⟨f.hasK (((d.le.trans k.le).trans m.le).trans o.le),f.hasObj m3,f.hasObj m2⟩,(fun _=>trivial),by decide⟩ (ug u u x) u (wg_un (i:=27) (listed':=L_ 30 27) u (by kernel_rfl) (pk_then pk_body) (by kernel_rfl) u (by kernel_rfl) (by kernel_rfl) u ⟨⟨f.hasK (((d.le.trans k.le).trans m.le).trans o.le),f.hasObj m3,f.hasObj m2⟩,(fun _=>trivial),by decide⟩ (ug u u x) u ?_)
   refine wg_val (i:=28) (listed':=L_ 30 28) (fun _=>True) u (by kernel_rfl) (pk_then pk_body) (by kernel_rfl) u (by kernel_rfl) (by kernel_rfl) u (.inl fun _ _=>trivial) ⟨⟨f.hasK (((d.le.trans k.le).trans m.le).trans o.le),f.hasObj m3,f.hasObj m2⟩,(fun _=>trivial),by decide⟩ wn u (fun _ _=>(p_f u x u)) (wg_val (i:=29) (listed':=L_ 30 29) (fun _=>True) u (by kernel_rfl) (pk_then pk_body) (by kernel_rfl) u (by kernel_rfl) (by kernel_rfl) u (.inl fun _ _=>trivial) ⟨⟨f.hasK (((d.le.trans k.le).trans m.le).trans o.le),f.hasObj m3,f.hasObj m2⟩,(fun _=>trivial),by decide⟩ wn u (fun _ _=>(rv_assign u)) (wg_done (by kernel_rfl) (qe_seq (wc_ret ?_))))
   cases oi aV
   exact ey results8 ⟨bf,u,f.s⟩
  refine wg_un (i:=13) (listed':=L_ 30 13) u (by kernel_rfl) (pk_then pk_body) (by kernel_rfl) u (by kernel_rfl) (by kernel_rfl) u ⟨⟨c.hasK d.le,c.hasObj m1,c.hasObj m0⟩,(fun _=>trivial),by decide⟩ (ug u u S) u (wg_un (i:=15) (listed':=#[true,true,true,true,true,true,true,true,true,true,true,true,true,true,false,true,false,false,false,false,false,false,false,false,false,false,false,false,false,false]) u (by kernel_rfl) (pk_then pk_body) (by kernel_rfl) u (by kernel_rfl) (by kernel_rfl) u ⟨⟨c.hasK d.le,c.hasObj m1,c.hasObj m0⟩,(fun _=>trivial),by decide⟩ (ug u u S) u (wg_one (i:=14) (by kernel_rfl) u (lu S (wl_nil (qe_held (listed':=L_ 30 15) u ⟨⟨c.hasK d.le,c.hasObj m1,c.hasObj m0⟩,(fun _=>trivial),by decide⟩ (wg_one (i:=16) (by kernel_rfl) u (lu S ?_)))))))
  refine wl_nil (qe_held (listed':=L_ 30 16) u ⟨⟨c.hasK d.le,c.hasObj m1,c.hasObj m0⟩,(fun _=>trivial),by decide⟩ (wg_one (i:=17) (by kernel_rfl) u (lu S (wl_nil (qe_held (listed':=L_ 30 17) u ⟨⟨c.hasK d.le,c.hasObj m1,c.hasObj m0⟩,(fun _=>trivial),by decide⟩ (wg_val (i:=18) (listed':=L_ 30 18) (fun _=>True) u (by kernel_rfl) (pk_then pk_body) (by kernel_rfl) u (by kernel_rfl) (by kernel_rfl) u (.inl fun _ _=>trivial) ⟨⟨c.hasK d.le,c.hasObj m1,c.hasObj m0⟩,(fun _=>trivial),by decide⟩ wn u (fun _ _=>(p_f u S u)) ?_))))))
  refine wg_val (i:=19) (listed':=L_ 30 19) (fun _=>True) u (by kernel_rfl) (pk_then pk_body) (by kernel_rfl) u (by kernel_rfl) (by kernel_rfl) u (.inl fun _ _=>trivial) ⟨⟨c.hasK d.le,c.hasObj m1,c.hasObj m0⟩,(fun _=>trivial),by decide⟩ wn u (fun _ _=>(rv_move u)) (wg_un (i:=20) (listed':=L_ 30 20) u (by kernel_rfl) (pk_then pk_body) (by kernel_rfl) u (by kernel_rfl) (by kernel_rfl) u ⟨⟨c.hasK d.le,c.hasObj m1,c.hasObj m0⟩,(fun _=>trivial),by decide⟩ (ug u u u) u (wg_un (i:=21) (listed':=L_ 30 21) u (by kernel_rfl) (pk_then pk_body) (by kernel_rfl) u (by kernel_rfl) (by kernel_rfl) u ⟨⟨c.hasK d.le,c.hasObj m1,c.hasObj m0⟩,(fun _=>trivial),by decide⟩ (ug u u u) u ?_))
  refine wg_un (i:=22) (listed':=L_ 30 22) u (by kernel_rfl) (pk_then pk_body) (by kernel_rfl) u (by kernel_rfl) (by kernel_rfl) u ⟨⟨c.hasK d.le,c.hasObj m1,c.hasObj m0⟩,(fun _=>trivial),by decide⟩ (ug u u u) u (wg_un (i:=23) (listed':=L_ 30 23) u (by kernel_rfl) (pk_then pk_body) (by kernel_rfl) u (by kernel_rfl) (by kernel_rfl) u ⟨⟨c.hasK d.le,c.hasObj m1,c.hasObj m0⟩,(fun _=>trivial),by decide⟩ (ug u u u) u (wg_un (i:=24) (listed':=L_ 30 24) u (by kernel_rfl) (pk_then pk_body) (by kernel_rfl) u (by kernel_rfl) (by kernel_rfl) u ⟨⟨c.hasK d.le,c.hasObj m1,c.hasObj m0⟩,(fun _=>trivial),by decide⟩ (ug u u u) u ?_))
  refine wg_un (i:=25) (listed':=L_ 30 25) u (by kernel_rfl) (pk_then pk_body) (by kernel_rfl) u (by kernel_rfl) (by kernel_rfl) u ⟨⟨c.hasK d.le,c.hasObj m1,c.hasObj m0⟩,(fun _=>trivial),by decide⟩ (ug u u u) u (wg_un (i:=26) (listed':=L_ 30 26) u (by kernel_rfl) (pk_then pk_body) (by kernel_rfl) u (by kernel_rfl) (by kernel_rfl) u ⟨⟨c.hasK d.le,c.hasObj m1,c.hasObj m0⟩,(fun _=>trivial),by decide⟩ (ug u u u) u (wg_un (i:=27) (listed':=L_ 30 27) u (by kernel_rfl) (pk_then pk_body) (by kernel_rfl) u (by kernel_rfl) (by kernel_rfl) u ⟨⟨c.hasK d.le,c.hasObj m1,c.hasObj m0⟩,(fun _=>trivial),by decide⟩ (ug u u u) u ?_))
  refine wg_val (i:=28) (listed':=L_ 30 28) (fun _=>True) u (by kernel_rfl) (pk_then pk_body) (by kernel_rfl) u (by kernel_rfl) (by kernel_rfl) u (.inl fun _ _=>trivial) ⟨⟨c.hasK d.le,c.hasObj m1,c.hasObj m0⟩,(fun _=>trivial),by decide⟩ wn u (fun _ _=>(p_f u u u)) (wg_val (i:=29) (listed':=L_ 30 29) (fun _=>True) u (by kernel_rfl) (pk_then pk_body) (by kernel_rfl) u (by kernel_rfl) (by kernel_rfl) u (.inl fun _ _=>trivial) ⟨⟨c.hasK d.le,c.hasObj m1,c.hasObj m0⟩,(fun _=>trivial),by decide⟩ wn u (fun _ _=>(rv_assign u)) (wg_done (by kernel_rfl) (qe_seq (wc_ret ?_))))
  cases oi aU
  exact ey results8 ⟨be,u,c.s⟩
 refine wg_un (i:=3) (listed':=L_ 30 3) u (by kernel_rfl) (pk_then pk_body) (by kernel_rfl) u (by kernel_rfl) (by kernel_rfl) u ⟨⟨c.hasK d.le,c.hasObj m1,c.hasObj m0⟩,(fun _=>trivial),by decide⟩ (ug u u s) u (wg_un (i:=4) (listed':=L_ 30 4) u (by kernel_rfl) (pk_then pk_body) (by kernel_rfl) u (by kernel_rfl) (by kernel_rfl) u ⟨⟨c.hasK d.le,c.hasObj m1,c.hasObj m0⟩,(fun _=>trivial),by decide⟩ (ug u u s) u (wg_un (i:=5) (listed':=L_ 30 5) u (by kernel_rfl) (pk_then pk_body) (by kernel_rfl) u (by kernel_rfl) (by kernel_rfl) u ⟨⟨c.hasK d.le,c.hasObj m1,c.hasObj m0⟩,(fun _=>trivial),by decide⟩ (ug u u s) u ?_))
 refine wg_un (i:=6) (listed':=L_ 30 6) u (by kernel_rfl) (pk_then pk_body) (by kernel_rfl) u (by kernel_rfl) (by kernel_rfl) u ⟨⟨c.hasK d.le,c.hasObj m1,c.hasObj m0⟩,(fun _=>trivial),by decide⟩ (ug u u s) u (wg_un (i:=7) (listed':=L_ 30 7) u (by kernel_rfl) (pk_then pk_body) (by kernel_rfl) u (by kernel_rfl) (by kernel_rfl) u ⟨⟨c.hasK d.le,c.hasObj m1,c.hasObj m0⟩,(fun _=>trivial),by decide⟩ (ug u u s) u (wg_un (i:=8) (listed':=L_ 30 8) u (by kernel_rfl) (pk_then pk_body) (by kernel_rfl) u (by kernel_rfl) (by kernel_rfl) u ⟨⟨c.hasK d.le,c.hasObj m1,c.hasObj m0⟩,(fun _=>trivial),by decide⟩ (ug u u s) u ?_))
 refine wg_un (i:=9) (listed':=L_ 30 9) u (by kernel_rfl) (pk_then pk_body) (by kernel_rfl) u (by kernel_rfl) (by kernel_rfl) u ⟨⟨c.hasK d.le,c.hasObj m1,c.hasObj m0⟩,(fun _=>trivial),by decide⟩ (ug u u s) u (wg_un (i:=10) (listed':=L_ 30 10) u (by kernel_rfl) (pk_then pk_body) (by kernel_rfl) u (by kernel_rfl) (by kernel_rfl) u ⟨⟨c.hasK d.le,c.hasObj m1,c.hasObj m0⟩,(fun _=>trivial),by decide⟩ (ug u u s) u ?_)
 refine wg_val (i:=11) (listed':=L_ 30 11) (fun _=>True) u (by kernel_rfl) (pk_then pk_body) (by kernel_rfl) u (by kernel_rfl) (by kernel_rfl) u (.inl fun _ _=>trivial) ⟨⟨c.hasK d.le,c.hasObj m1,c.hasObj m0⟩,(fun _=>trivial),by decide⟩ wn u (fun _ _=>(p_f u s u)) (wg_val (i:=12) (listed':=L_ 30 12) (fun _=>True) u (by kernel_rfl) (pk_then pk_body) (by kernel_rfl) u (by kernel_rfl) (by kernel_rfl) u (.inl fun _ _=>trivial) ⟨⟨c.hasK d.le,c.hasObj m1,c.hasObj m0⟩,(fun _=>trivial),by decide⟩ wn u (fun _ _=>(rv_move u)) ?_)
 refine wg_un (i:=13) (listed':=L_ 30 13) u (by kernel_rfl) (pk_then pk_body) (by kernel_rfl) u (by kernel_rfl) (by kernel_rfl) u ⟨⟨c.hasK d.le,c.hasObj m1,c.hasObj m0⟩,(fun _=>trivial),by decide⟩ (ug u u u) u (wg_un (i:=15) (listed':=#[true,true,true,true,true,true,true,true,true,true,true,true,true,true,false,true,false,false,false,false,false,false,false,false,false,false,false,false,false,false]) u (by kernel_rfl) (pk_then pk_body) (by kernel_rfl) u (by kernel_rfl) (by kernel_rfl) u ⟨⟨c.hasK d.le,c.hasObj m1,c.hasObj m0⟩,(fun _=>trivial),by decide⟩ (ug u u u) u (wg_one (i:=14) (by kernel_rfl) u (lu u (wl_nil (qe_held (listed':=L_ 30 15) u ⟨⟨c.hasK d.le,c.hasObj m1,c.hasObj m0⟩,(fun _=>trivial),by decide⟩ (wg_one (i:=16) (by kernel_rfl) u (lu u ?_)))))))
 refine wl_nil (qe_held (listed':=L_ 30 16) u ⟨⟨c.hasK d.le,c.hasObj m1,c.hasObj m0⟩,(fun _=>trivial),by decide⟩ (wg_one (i:=17) (by kernel_rfl) u (lu u (wl_nil (qe_held (listed':=L_ 30 17) u ⟨⟨c.hasK d.le,c.hasObj m1,c.hasObj m0⟩,(fun _=>trivial),by decide⟩ (wg_val (i:=18) (listed':=L_ 30 18) (fun _=>True) u (by kernel_rfl) (pk_then pk_body) (by kernel_rfl) u (by kernel_rfl) (by kernel_rfl) u (.inl fun _ _=>trivial) ⟨⟨c.hasK d.le,c.hasObj m1,c.hasObj m0⟩,(fun _=>trivial),by decide⟩ wn u (fun _ _=>(p_f u u u)) ?_))))))
 refine wg_val (i:=19) (listed':=L_ 30 19) (fun _=>True) u (by kernel_rfl) (pk_then pk_body) (by kernel_rfl) u (by kernel_rfl) (by kernel_rfl) u (.inl fun _ _=>trivial) ⟨⟨c.hasK d.le,c.hasObj m1,c.hasObj m0⟩,(fun _=>trivial),by decide⟩ wn u (fun _ _=>(rv_move u)) (wg_un (i:=20) (listed':=L_ 30 20) u (by kernel_rfl) (pk_then pk_body) (by kernel_rfl) u (by kernel_rfl) (by kernel_rfl) u ⟨⟨c.hasK d.le,c.hasObj m1,c.hasObj m0⟩,(fun _=>trivial),by decide⟩ (ug u u u) u (wg_un (i:=21) (listed':=L_ 30 21) u (by kernel_rfl) (pk_then pk_body) (by kernel_rfl) u (by kernel_rfl) (by kernel_rfl) u ⟨⟨c.hasK d.le,c.hasObj m1,c.hasObj m0⟩,(fun _=>trivial),by decide⟩ (ug u u u) u ?_))
 refine wg_un (i:=22) (listed':=L_ 30 22) u (by kernel_rfl) (pk_then pk_body) (by kernel_rfl) u (by kernel_rfl) (by kernel_rfl) u ⟨⟨c.hasK d.le,c.hasObj m1,c.hasObj m0⟩,(fun _=>trivial),by decide⟩ (ug u u u) u (wg_un (i:=23) (listed':=L_ 30 23) u (by kernel_rfl) (pk_then pk_body) (by kernel_rfl) u (by kernel_rfl) (by kernel_rfl) u ⟨⟨c.hasK d.le,c.hasObj m1,c.hasObj m0⟩,(fun _=>trivial),by decide⟩ (ug u u u) u (wg_un (i:=24) (listed':=L_ 30 24) u (by kernel_rfl) (pk_then pk_body) (by kernel_rfl) u (by kernel_rfl) (by kernel_rfl) u ⟨⟨c.hasK d.le,c.hasObj m1,c.hasObj m0⟩,(fun _=>trivial),by decide⟩ (ug u u u) u ?_))
 refine wg_un (i:=25) (listed':=L_ 30 25) u (by kernel_rfl) (pk_then pk_body) (by kernel_rfl) u (by kernel_rfl) (by kernel_rfl) u ⟨⟨c.hasK d.le,c.hasObj m1,c.hasObj m0⟩,(fun _=>trivial),by decide⟩ (ug u u u) u (wg_un (i:=26) (listed':=L_ 30 26) u (by kernel_rfl) (pk_then pk_body) (by kernel_rfl) u (by kernel_rfl) (by kernel_rfl) u ⟨⟨c.hasK d.le,c.hasObj m1,c.hasObj m0⟩,(fun _=>trivial),by decide⟩ (ug u u u) u (wg_un (i:=27) (listed':=L_ 30 27) u (by kernel_rfl) (pk_then pk_body) (by kernel_rfl) u (by kernel_rfl) (by kernel_rfl) u ⟨⟨c.hasK d.le,c.hasObj m1,c.hasObj m0⟩,(fun _=>trivial),by decide⟩ (ug u u u) u ?_))
 refine wg_val (i:=28) (listed':=L_ 30 28) (fun _=>True) u (by kernel_rfl) (pk_then pk_body) (by kernel_rfl) u (by kernel_rfl) (by kernel_rfl) u (.inl fun _ _=>trivial) ⟨⟨c.hasK d.le,c.hasObj m1,c.hasObj m0⟩,(fun _=>trivial),by decide⟩ wn u (fun _ _=>(p_f u u u)) (wg_val (i:=29) (listed':=L_ 30 29) (fun _=>True) u (by kernel_rfl) (pk_then pk_body) (by kernel_rfl) u (by kernel_rfl) (by kernel_rfl) u (.inl fun _ _=>trivial) ⟨⟨c.hasK d.le,c.hasObj m1,c.hasObj m0⟩,(fun _=>trivial),by decide⟩ wn u (fun _ _=>(rv_assign u)) (wg_done (by kernel_rfl) (qe_seq (wc_ret ?_))))
 cases oi aT
 exact ey results8 ⟨be,u,c.s⟩
end Go.Proofs.YtpjefkdclnmlfaaGreat
