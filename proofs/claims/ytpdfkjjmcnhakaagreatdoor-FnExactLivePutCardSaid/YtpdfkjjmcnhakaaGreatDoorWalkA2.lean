/-
 Walks of the functions. Printed by gen.py.
-/
import Derived.Test.YtpdfkjjmcnhakaaGreatDoorWalkA1
set_option linter.unusedVariables false
set_option linter.unusedSectionVars false
set_option maxRecDepth 100000
namespace Go.Proofs.YtpdfkjjmcnhakaaGreatDoor
set_option maxHeartbeats 4000000
open Go Go.Fk Go.RowKit Tryz
variable (F:Nat){w:World}{K:KMap}{Z:List Nat}{g1 g2 g3:Nat}{A B C D G H I J O R S T:Option Addr}{a b c d f i k l m n o p q s v x y aa ab ac ad ae af ag:Nat}
variable [dr:Dr]

theorem ok_spec_l2Begins {q0:List GTerm}{q1:List Str}{r:Bool}(hS:SH w K [] w K [])(l:SliceAt tGTerm K A a b q0)(C:SliceAt tStr K B c d q1)(hm:M.spec_l2Begins F q0 q1=some r):
  Calls prog 156 #[V3 A a b,V3 B c d] w (R_b w K r):=by
 rw [M.spec_l2Begins] at hm
 refine ci func156 u ntmps156 (sr (lv (r_f u) (nsr (lv (r_0 u) (nq ?_)))))
 obtain⟨U,V,m⟩:=ob hm
 refine wc_cutg (IE U w K [] K [] []) ?_ ?_
 ·refine wc_block ?_
  obtain⟨aW,W,D⟩:=ob V
  refine qw (fun (o:Int)=>IW w K [] K [(0,V3 A a b),(1,V3 B c d),(5,V6 o)] [] (rng64 o)) W ⟨K,u,hS,kr,d_0⟩ ?_
  rintro o _ aX aY X G ⟨H,rfl,I,k,aZ⟩
  refine wc_seq (sr (mv u (mv u (lv (rv_len underlying22 u (C.mono k)) (lv (rv_lss u u) (nq (wcc X u (fun Y q=>?_) (fun Y q=>?_))))))))
  ·refine wc_skip (qs (wc_block (wc_seq ?_)))
   obtain⟨aa,ab,ac⟩:=ob q
   refine wc_cutg (IV w K [] H [(0,V3 A a b),(1,V3 B c d),(5,V6 o),(41,.bool aa)] []) ?_ ?_
   ·refine wc_quiet mixed (by kernel_rfl) I (km u (km u (kv (rv_len underlying101 u (l.mono k)) (kv (rv_geq u u) (km u (bt ab (fun i s=>?_) (fun i s=>?_)))))))
    ·iterate 10 refine kn i ?_
     refine kv (p_t u i u) (km u ?_)
     iterate 12 refine qv u u u u ?_
     refine kv (p_t u u u) (wq_nil ?_)
     rintro ba ⟨ad,ae,af⟩
     cases oi s
     exact qd ⟨ad,u,ae,af⟩
    refine kg i (rv_move u) (kg i (rv_move u) ?_)
    obtain⟨J,ag,ah⟩:=ob s
    refine wq_indexAddr (t:=tGTerm) (wg u u i) u underlying101 tf104 u u (l.mono k) ag fun ai aj bb ak al=>?_
    obtain⟨rfl,bc,bd⟩:=ak
    have am:AtK _ ai aj [sv J.Text,V6 J.At]:=al
    refine kg i (rv_fieldAddr ff104_0 u) (kgh i (rq_load1 tf9 u (am 0 _ u)) (kg i (rv_move u) (kg i (rv_move u) ?_)))
    obtain⟨an,ao,ap⟩:=ob ah
    refine wq_indexAddr (t:=tStr) (wg u u i) u underlying22 tf9 u u (C.mono k) ao fun aq ar be au aw=>?_
    obtain⟨rfl,bf⟩:=au
    have ax:AtK _ aq ar [sv an]:=aw
    refine kgh i (rq_load1 tf9 u (ax 0 _ u)) (kg i (rv_sneq u u) (kv (rv_pick_f u i u) (km u (bt ap (fun f x=>?_) (fun f x=>?_)))))
    ·iterate 12 refine kn f ?_
     refine kv (p_t u f u) (wq_nil ?_)
     rintro bg ⟨ay,az,aA⟩
     cases oi x
     exact qd ⟨ay,u,az,aA⟩
    refine kg f (rv_move u) (kg f (rv_move u) ?_)
    obtain⟨O,aB,aC⟩:=ob x
    refine wq_indexAddr (t:=tGTerm) (wg u u f) u underlying101 tf104 u u (l.mono k) aB fun aD aE bh aF aG=>?_
    obtain⟨rfl,bi,bj⟩:=aF
    have aH:AtK _ aD aE [sv O.Text,V6 O.At]:=aG
    refine kg f (rv_fieldAddr ff104_1 u) (kgh f (rq_load1 tf3 u (aH 1 _ u)) (kg f (rv_move u) ?_))
    obtain⟨R,aI,aJ⟩:=ob aC
    refine wq_indexAddr (t:=tGTerm) (wg u u f) u underlying101 tf104 u u (l.mono k) aI fun aK aL bk aM aN=>?_
    obtain⟨rfl,bl,bm⟩:=aM
    have aO:AtK _ aK aL [sv R.Text,V6 R.At]:=aN
    refine kg f (rv_fieldAddr ff104_1 u) (kgh f (rq_load1 tf3 u (aO 1 _ u)) (kg f (rv_move u) (kg f (rv_add u u) (kg f (rv_neq u u) (kv (rv_pick_f u f u) (wq_nil ?_))))))
    rintro bn ⟨aP,aQ,aR⟩
    cases oi aJ
    exact qd ⟨aP,u,aQ,aR⟩
   rintro _ bo ⟨S,rfl,T,aS⟩
   refine qe_seq (wcc ac u (fun aT y=>?_) (fun aT y=>?_))
   ·refine sr (lv (r_f u) (nq (wc_ret (qe_block_ret (qe_then_ret (qe_then_ret ?_))))))
    cases oi y
    cases G _ u
    refine qe_block_ret (qe_then_ret ?_)
    cases oi D
    refine qe_then_ret ?_
    cases oi m
    exact ey results156 ⟨S,u,T⟩
   refine wc_skip (qe_block (qe_seq (wc_region (mv u (lv (rv_add u u) (av u (wl_nil ?_)))))))
   cases oi y
   exact qd ⟨_,u,S,u,T,(k.trans aS),(w64_rng _)⟩
  refine wc_exit (qe_then_exit (qe_then_exit ?_))
  cases oi q
  cases G _ u
  refine qe_block_eq ?_
  cases oi D
  exact qe_mid' ⟨_,H,u,u,I,k⟩ trivial
 rintro _ bp ⟨bq,aU,rfl,rfl,aV,br⟩
 have m:=elim_l m
 refine qr (lv (r_t u) (nq (wc_ret ?_)))
 cases oi m
 exact ey results156 ⟨aU,u,aV⟩

theorem ok_spec_l2Syn {q0:GConf}{q1:List GTerm}{r:Int}(hS:SH w K [] w K [])(bn:SliceAt tStr K A a b q0.Stops)(s:SliceAt tGSyn K B c d q0.Syns)(V:SliceAt tGTerm K C f i q1)(hm:M.spec_l2Syn F q0 q1=some r):
  Calls prog 111 #[.agg #[V3 A a b,V3 B c d],V3 C f i] w (R_i w K r):=by
 rw [M.spec_l2Syn] at hm
 refine ci func111 u ntmps111 (sr (bx u hS fun q bo W=>?_))
 have X:SH _ _ _ _ _ [obj q [V3 A a b,V3 B c d] 38]:=W
 refine lv (r_0 u) (nr (lv (rv_assign (v:=V6 (-1)) u) (nsr (lv (r_0 u) (nq ?_)))))
 obtain⟨I,Y,aa⟩:=ob hm
 refine wc_cutg (IW w K [] K [(5,V6 I)] [] (rng64 I)) ?_ ?_
 ·refine wc_block ?_
  obtain⟨bp,ab,ac⟩:=ob Y
  refine qw (fun (o:Int×Int)=>IW w K [] K [(1,V3 C f i),(2,pt q),(5,V6 o.1),(6,V6 o.2)] [obj q [V3 A a b,V3 B c d] 38] (rng64 o.1∧rng64 o.2)) ab ⟨K,u,X,kr,(by decide :rng64 (-1)),d_0⟩ ?_
  rintro o _ bq br ad ae ⟨J,rfl,x,m,O,af⟩
  refine wc_seq (sr (mv u (fl ff38_1 u tf36 m0 x u (lv (rv_len underlying36 u (s.mono m)) (lv (rv_lss u u) (nq (wcc ad u (fun ag y=>?_) (fun ag y=>?_))))))))
  ·refine wc_skip (qs (wc_block (wc_seq ?_)))
   obtain⟨ah,ai,aj⟩:=ob y
   refine wc_cutg (IV w K [] J [(1,V3 C f i),(2,pt q),(5,V6 o.1),(6,V6 o.2),(42,.bool ah)] [obj q [V3 A a b,V3 B c d] 38]) ?_ ?_
   ·refine wc_quiet mixed (by kernel_rfl) x (km u (kv (rv_fieldAddr ff38_1 u) (kh (rq_loadm1 tf36 u m0 u) (km u ?_))))
    obtain⟨ak,al,am⟩:=ob ai
    refine ki underlying36 tf128 (s.mono m) al fun an ao bs ap aq=>?_
    obtain⟨ar,au,aw,rfl,ax,bu⟩:=ap
    have ay:AtK _ an ao [V3 ar au aw,sv ak.To]:=aq
    refine kv (rv_fieldAddr ff128_0 u) (kh (rq_load1 tf22 u (ay 0 _ u)) ?_)
    obtain⟨bv,az,aA⟩:=ob am
    refine kc co156 (fun _ _ aB R=>(ok_spec_l2Begins F) aB.enter0 (V.mono (m.trans R)) (ax.mono R) az) (km u (bt aA (fun l D=>?_) (fun l D=>?_)))
    ·refine kg l (rv_move u) (kg l (rv_lss u u) (kg l (rv_move u) (bt D (fun k G=>?_) (fun k G=>?_))))
     ·iterate 15 refine kn k ?_
      refine kg l (p_t u k u) (kv (rv_pick_t u l u) (wq_nil ?_))
      rintro bz ⟨aC,aD,aE⟩
      cases oi G
      exact qd ⟨aC,u,aD,aE⟩
     refine kg k (rv_fieldAddr ff38_1 u) (kgh k (rq_loadm1 tf36 u m0 u) (kg k (rv_move u) ?_))
     obtain⟨aF,aG,aH⟩:=ob G
     refine wq_indexAddr (t:=tGSyn) (wg u u k) u underlying36 tf128 u u (s.mono m) aG fun aI aJ bA aK aL=>?_
     obtain⟨aM,aN,aO,rfl,aP,bB⟩:=aK
     have aQ:AtK _ aI aJ [V3 aM aN aO,sv aF.To]:=aL
     refine kg k (rv_fieldAddr ff128_0 u) (kgh k (rq_load1 tf22 u (aQ 0 _ u)) (kg k (rv_len underlying22 u aP) (kg k (rv_fieldAddr ff38_1 u) (kgh k (rq_loadm1 tf36 u m0 u) (kg k (rv_move u) ?_)))))
     obtain⟨aR,aS,aT⟩:=ob aH
     refine wq_indexAddr (t:=tGSyn) (wg u u k) u underlying36 tf128 u u (s.mono m) aS fun aU aV bC aW aX=>?_
     obtain⟨aY,aZ,ba,rfl,bb,bD⟩:=aW
     have bc:AtK _ aU aV [V3 aY aZ ba,sv aR.To]:=aX
     refine kg k (rv_fieldAddr ff128_0 u) (kgh k (rq_load1 tf22 u (bc 0 _ u)) (kg k (rv_len underlying22 u bb) (kg k (rv_gtr u u) (kg l (rv_pick_f u k u) (kv (rv_pick_t u l u) (wq_nil ?_))))))
     rintro bE ⟨bd,be,bf⟩
     cases oi aT
     exact qd ⟨bd,u,be,bf⟩
    refine kn l (kn l (kn l ?_))
    iterate 15 refine ku ?_
    refine kn l (kv (p_f u l u) (wq_nil ?_))
    rintro bF ⟨bg,bh,bi⟩
    cases oi D
    exact qd ⟨bg,u,bh,bi⟩
   rintro _ bG ⟨S,rfl,T,U⟩
   refine qe_seq (wcc aj u (fun bj H=>?_) (fun bj H=>?_))
   ·refine wc_region (mv u (av u (nb (qe_seq (wc_region (mv u (lv (rv_add u u) (av u (wl_nil ?_)))))))))
    cases oi H
    exact qd ⟨_,u,S,u,T,(m.trans U),af,(w64_rng _)⟩
   refine wc_skip (qe_block (qe_seq (wc_region (mv u (lv (rv_add u u) (av u (wl_nil ?_)))))))
   cases oi H
   exact qd ⟨_,u,S,u,T,(m.trans U),O,(w64_rng _)⟩
  refine wc_exit (qe_then_exit (qe_then_exit ?_))
  cases oi y
  cases ae _ u
  refine qe_block_eq ?_
  cases oi ac
  exact qd ⟨J,u,x.s,m,O⟩
 rintro _ bH ⟨bk,rfl,bl,bI,bm⟩
 refine qr (mv u (av u (nq (wc_ret ?_))))
 cases oi aa
 exact ey results111 ⟨bk,u,bl,bm⟩

theorem ok_spec_l2Terms {q0:GConf}{q1:Str}{r:(List GTerm)}(hS:SH w K [] w K [])(ak:SliceAt tStr K A a b q0.Stops)(S:SliceAt tGSyn K B c d q0.Syns)(am:q1.length≤maxLen)(hm:M.spec_l2Terms F q0 q1=some r):
  Calls prog 59 #[.agg #[V3 A a b,V3 B c d],sv q1] w fun e w'=>∃a_1 n_2 c_3 K',e= .returned (V3 a_1 n_2 c_3)∧SH w K [] w' K' [tail (V3 a_1 n_2 c_3) 104 2]∧SliceAt tGTerm K' a_1 n_2 c_3 r:=by
 rw [M.spec_l2Terms] at hm
 refine ci func59 u ntmps59 (sr (bx u hS fun T cn an=>?_))
 have ao:SH _ _ _ _ _ [obj T [V3 A a b,V3 B c d] 38]:=an
 refine lv (r_n u) (nr (b0 tGTerm underlying101 tf104 ao fun ap cp cq l aq W=>(av u (nr (lv (rv_loadmS (ds:=[V3 A a b,V3 B c d]) tf38 u m1 W u u) (mv u ?_))))))
 obtain⟨cr,ar,au⟩:=ob hm
 refine lk co110 (ok_spec_l2Plain F W.enter0 (ak.mono l) (S.mono l) am ar) ?_
 rintro ct cu ⟨aw,ax,ay,X,rfl,m,az⟩
 have aA:=(W.c0 m).t3
 refine av u (ns ?_)
 obtain⟨aB,aC,aD⟩:=ob au
 refine wc_cutg (fun E' w'=>∃y C D G,E'=[(5,V3 y C D)]∧SH w K [] w' G [tail (V3 y C D) 104 2]∧KLe X G∧SliceAt tGTerm G y C D aB) ?_ ?_
 ·refine wc_block ?_
  obtain⟨cv,aE,aF⟩:=ob aC
  have aG:=aA.f1.f2.sb (sk (sk (sd sz)))
  refine qw (fun (Y:(List GTerm)×(List GTerm)) E' w'=>∃H I J aa ab ac o,E'=[(2,pt T),(5,V3 H I J),(6,V3 aa ab ac)]∧SH w K [] w' o [obj T [V3 A a b,V3 B c d] 38,tail (V3 H I J) 104 2]∧KLe X o∧SliceAt tGTerm o H I J Y.1∧SliceAt tGTerm o aa ab ac Y.2) aE ⟨ap,0,0,aw,ax,ay,X,u,aG,kr,(aq.mono m.le),az⟩ ?_
  rintro Y _ cw cx aH aI ⟨H,I,J,aa,ab,ac,o,rfl,U,i,ad,q⟩
  refine wc_seq (sr (mv u (lv (rv_len underlying101 u q) (lv (rv_gtr u u) (nq (wcc aH u (fun aJ ae=>?_) (fun aJ ae=>?_)))))))
  ·refine wc_skip (qe_seq (wc_block (sr (lv (rv_loadmS (ds:=[V3 A a b,V3 B c d]) tf38 u m0 U u u) (mv u ?_)))))
   obtain⟨cy,aK,aL⟩:=ob ae
   refine lk co111 (ok_spec_l2Syn F U.enter0 (ak.mono ((l.trans m.le).trans i)) (S.mono ((l.trans m.le).trans i)) q aK) ?_
   rintro cz cA ⟨aM,rfl,f,cB⟩
   have af:=(U.c0 f).t2
   refine av u (nsr (mv u (lv (rv_lss u u) (nq (wcc aL u (fun aN ag=>?_) (fun aN ag=>?_))))))
   ·refine sr (mv u (mv u ?_))
    obtain⟨k,aO,aP⟩:=ob ag
    refine li underlying101 tf104 (q.mono f.le) aO fun aQ aR cC aS aT=>?_
    obtain⟨rfl,aU,aV⟩:=aS
    have aW:AtK _ aQ aR [sv k.Text,V6 k.At]:=aT
    refine lv (rv_loadS tf104 u af aW u) (lb tGTerm (.agg #[sv k.Text,V6 k.At]) [sv k.Text,V6 k.At] k underlying101 tf104 ⟨u,aU,aV⟩ af fun cD cE cF ah aX aY=>?_)
    obtain⟨cG,aZ,ba⟩:=ob aP
    refine lp underlying101 tf104 (ad.mono (f.le.trans ah)) aX aZ aY.f2 fun bb bc bd cH be al bf bg=>(av u (nr (mv u ?_)))
    obtain⟨cI,bh,bi⟩:=ob ba
    refine wl_sl_l (t:=tGTerm) wn u underlying101 tf104 u u (q.mono ((f.le.trans ah).trans al)) bh fun bj bk bl bm=>(av u (nq (wc_exit (qe_then_exit (qe_block_eq ?_)))))
    cases oi bi
    exact qd ⟨_,u,bb,bc,bd,bj,bk,bl,be,u,bg.f2.s,(((i.trans f.le).trans ah).trans al),bf,bm⟩
   refine wc_skip (qs ?_)
   have ai:=af.drew
   refine wh1 (fun w'=>Holds aM w'∧HasObj T [V3 A a b,V3 B c d] w') (fun w'=>True) 15 [] mixed ⟨ai.hasK kr,ai.hasObj m0⟩ (fun _=>trivial) (gt (rv_move u) (gt (rv_fieldAddr ff38_1 u) (gh (fun _ h=>rh_loadm1 tf36 u u h.2) (gt (rv_move u) ?_))))
   obtain⟨O,bn,bo⟩:=ob ag
   refine gi underlying36 tf128 (SliceAt.mono (((l.trans m.le).trans i).trans f.le) S) bn fun bp bq cJ br bs=>?_
   obtain⟨bu,bv,bz,rfl,cK,bA⟩:=br
   have bB:AtK _ bp bq [V3 bu bv bz,sv O.To]:=bs
   refine gt (rv_fieldAddr ff128_1 u) (gh (fun _ h=>rh_load1 tf9 u (bB 1 _ u) h.1) (gt (rv_move u) ?_))
   obtain⟨s,bC,bD⟩:=ob bo
   refine gi underlying101 tf104 (q.mono f.le) bC fun bE bF cL bG bH=>?_
   obtain⟨rfl,cM,bI⟩:=bG
   have bJ:AtK _ bE bF [sv s.Text,V6 s.At]:=bH
   refine gt (rv_fieldAddr ff104_1 u) (gh (fun _ h=>rh_load1 tf3 u (bJ 1 _ u) h.1) (gt (rv_build (cs:=#[sv O.To,V6 s.At]) sp104 tf104 u (by kernel_rfl)) (gn (lb tGTerm (.agg #[sv O.To,V6 s.At]) [sv O.To,V6 s.At] (GTerm.mk O.To s.At) underlying101 tf104 ⟨u,bA,bI⟩ ai fun cN cO cP x bK aj=>(wl_nil (qh ⟨aj.hasK x,aj.hasObj m1⟩ (fun _=>trivial) (gn ?_)))))))
   obtain⟨cQ,bL,bM⟩:=ob bD
   refine lp underlying101 tf104 (ad.mono (f.le.trans x)) bK bL aj.f2 fun bN bO bP cR bQ V bR R=>(wl_nil (qh ⟨R.hasK (x.trans V),R.hasObj m2⟩ (fun _=>trivial) (gt (rv_assign u) (gd' (qe_seq (wc_region (mv u (fl ff38_1 u tf36 m2 R u (mv u ?_)))))))))
   obtain⟨bS,bT,bU⟩:=ob bM
   refine li underlying36 tf128 (SliceAt.mono (((((l.trans m.le).trans i).trans f.le).trans x).trans V) S) bT fun bV bW cS bX bY=>?_
   obtain⟨bZ,ca,cb,rfl,cc,cT⟩:=bX
   have cd:AtK _ bV bW [V3 bZ ca cb,sv bS.To]:=bY
   refine fa ff128_0 u (lv (rv_load1 tf22 u R (cd 0 _ u)) (lv (rv_len underlying22 u cc) ?_))
   obtain⟨cU,ce,cf⟩:=ob bU
   refine wl_sl_l (t:=tGTerm) wn u underlying101 tf104 u u (q.mono ((f.le.trans x).trans V)) ce fun cg ch cj ck=>(av u (nb ?_))
   cases oi cf
   exact qd ⟨_,u,bN,bO,bP,cg,ch,cj,bQ,u,R.f2.s,(((i.trans f.le).trans x).trans V),bR,ck⟩
  refine wc_exit (qe_then_exit (qe_then_exit ?_))
  cases oi ae
  cases aI _ u
  refine qe_block_eq ?_
  cases oi aF
  exact qd ⟨H,I,J,o,u,U.s,i,ad⟩
 rintro _ cV ⟨y,C,D,G,rfl,cl,cW,cm⟩
 refine qr (mv u (av u (nq (wc_ret ?_))))
 cases oi aD
 exact ey results59 ⟨y,C,D,G,u,cl,cm⟩

theorem ok_spec_l6Field {q0:GDoc}{q1:Str}{r:Str}(hS:SH w K [] w K [])(an:rng64 q0.Id)(l:SliceAt tGField K A a b q0.Fields)(ao:SliceAt tGAttr K B c d q0.Nums)(ap:q1.length≤maxLen)(hm:M.spec_l6Field F q0 q1=some r):
  Calls prog 188 #[.agg #[V6 q0.Id,V3 A a b,V3 B c d],sv q1] w fun e w'=>∃K',e= .returned (sv r)∧SH w K [] w' K' []∧r.length≤maxLen:=by
 rw [M.spec_l6Field] at hm
 refine ci func188 u ntmps188 (sr (bx u hS fun m aq H=>?_))
 have I:SH _ _ _ _ _ [obj m [V6 q0.Id,V3 A a b,V3 B c d] 64]:=H
 refine lv (r_s u) (nsr (lv (r_0 u) (nq ?_)))
 obtain⟨J,O,k⟩:=ob hm
 refine wc_cutg (IE J w K [] K [] []) ?_ ?_
 ·refine wc_block ?_
  obtain⟨ar,R,y⟩:=ob O
  refine qw (fun (o:Int)=>IW w K [] K [(1,sv q1),(2,pt m),(5,V6 o)] [obj m [V6 q0.Id,V3 A a b,V3 B c d] 64] (rng64 o)) R ⟨K,u,I,kr,d_0⟩ ?_
  rintro o _ au aw S C ⟨q,rfl,f,i,ax⟩
  refine wc_seq (sr (mv u (fl ff64_1 u tf61 m0 f u (lv (rv_len underlying61 u (l.mono i)) (lv (rv_lss u u) (nq (wcc S u (fun T s=>?_) (fun T s=>?_))))))))
  ·refine wc_skip (qs (wc_block (sr (fl ff64_1 u tf61 m0 f u (mv u ?_)))))
   obtain⟨D,U,V⟩:=ob s
   refine li underlying61 tf118 (l.mono i) U fun W X ay Y aa=>?_
   obtain⟨rfl,az,aA⟩:=Y
   have ab:AtK _ W X [sv D.Name,sv D.Text]:=aa
   refine fa ff118_0 u (lv (rv_load1 tf9 u f (ab 0 _ u)) (mv u (lv (rv_seql u u) (nq (wcc V u (fun ac x=>?_) (fun ac x=>?_))))))
   ·refine sr (fl ff64_1 u tf61 m0 f u (mv u ?_))
    obtain⟨G,ad,ae⟩:=ob x
    refine li underlying61 tf118 (l.mono i) ad fun af ag aB ah ai=>?_
    obtain⟨rfl,aC,aj⟩:=ah
    have ak:AtK _ af ag [sv G.Name,sv G.Text]:=ai
    refine fa ff118_1 u (lv (rv_load1 tf9 u f (ak 1 _ u)) (av u (nq (wc_ret (qe_block_ret (qe_then_ret (qe_then_ret ?_)))))))
    cases oi ae
    cases C _ u
    refine qe_block_ret (qe_then_ret ?_)
    cases oi y
    refine qe_then_ret ?_
    cases oi k
    exact ey results188 ⟨q,u,f.s,aj⟩
   refine wc_skip (qe_block (qe_seq (wc_region (mv u (lv (rv_add u u) (av u (wl_nil ?_)))))))
   cases oi x
   exact qd ⟨_,u,q,u,f,i,(w64_rng _)⟩
  refine wc_exit (qe_then_exit (qe_then_exit ?_))
  cases oi s
  cases C _ u
  refine qe_block_eq ?_
  cases oi y
  exact qe_mid' ⟨_,q,u,u,f.s,i⟩ trivial
 rintro _ aD ⟨aE,al,rfl,rfl,am,aF⟩
 have k:=elim_l k
 refine qr (lv (r_s u) (nq (wc_ret ?_)))
 cases oi k
 exact ey results188 ⟨al,u,am,(by decide :([]:Str).length≤maxLen)⟩

theorem ok_spec_l7Terms {q0:GConf}{q1:List GDoc}{q2:Str}{r:(List Str)}(hS:SH w K [] w K [])(aC:SliceAt tStr K A a b q0.Stops)(aD:SliceAt tGSyn K B c d q0.Syns)(ak:SliceAt tGDoc K C f i q1)(aE:q2.length≤maxLen)(hm:M.spec_l7Terms F q0 q1 q2=some r):
  Calls prog 141 #[.agg #[V3 A a b,V3 B c d],V3 C f i,sv q2] w fun e w'=>∃a_1 n_2 c_3 K',e= .returned (V3 a_1 n_2 c_3)∧SH w K [] w' K' [tail (V3 a_1 n_2 c_3) 9 1]∧SliceAt tStr K' a_1 n_2 c_3 r:=by
 rw [M.spec_l7Terms] at hm
 refine ci func141 u ntmps141 (sr (bx u hS fun k bS aF=>?_))
 have aG:SH _ _ _ _ _ [obj k [V3 A a b,V3 B c d] 38]:=aF
 refine lv (r_n u) (nr (b0 tStr underlying22 tf9 aG fun aH bT ae X aI aJ=>(av u (nsr (lv (r_0 u) (nq ?_))))))
 obtain⟨aK,aL,aM⟩:=ob hm
 refine wc_cutg (fun E' w'=>∃D G H I,E'=[(7,V3 D G H)]∧SH w K [] w' I [tail (V3 D G H) 9 1]∧KLe ae I∧SliceAt tStr I D G H aK) ?_ ?_
 ·refine wc_block ?_
  obtain⟨bU,aN,aO⟩:=ob aL
  refine qw (fun (m:(List Str)×Int) E' w'=>∃o q s x,E'=[(1,V3 C f i),(2,sv q2),(3,pt k),(7,V3 o q s),(8,V6 m.2)]∧SH w K [] w' x [obj k [V3 A a b,V3 B c d] 38,tail (V3 o q s) 9 1]∧KLe ae x∧SliceAt tStr x o q s m.1∧rng64 m.2) aN ⟨aH,0,0,ae,u,aJ.f1,kr,aI,d_0⟩ ?_
  rintro m _ bV bW aP aQ ⟨o,q,s,x,rfl,al,y,am,bX⟩
  refine wc_seq (sr (mv u (mv u (lv (rv_len underlying40 u (ak.mono (X.trans y))) (lv (rv_lss u u) (nq (wcc aP u (fun aR af=>?_) (fun aR af=>?_))))))))
  ·refine wc_skip (qs (wc_block (wc_seq ?_)))
   have Y:=al.drew
   refine wh1 (fun w'=>Holds x w'∧HasObj k [V3 A a b,V3 B c d] w') (fun w'=>True) 9 [] mixed ⟨Y.hasK kr,Y.hasObj m0⟩ (fun _=>trivial) (gh (fun _ h=>rh_loadmS (ds:=[V3 A a b,V3 B c d]) tf38 u u u h.2) (gt (rv_move u) (gt (rv_move u) ?_)))
   obtain⟨an,aS,aT⟩:=ob af
   refine gi underlying40 tf64 (ak.mono (X.trans y)) aS fun aU aV bY aW aX=>?_
   obtain⟨ao,ap,aq,ar,au,aw,rfl,aY,aZ,ba⟩:=aW
   have bb:AtK _ aU aV [V6 an.Id,V3 ao ap aq,V3 ar au aw]:=aX
   refine gh (fun _ h=>rh_loadS (cs:=[V6 an.Id,V3 ao ap aq,V3 ar au aw]) tf64 u bb u h.1) (gt (rv_move u) (gn ?_))
   obtain⟨bZ,bc,bd⟩:=ob aT
   refine lk co188 (ok_spec_l6Field F Y.enter0 aY aZ ba aE bc) ?_
   rintro ca cb ⟨cc,rfl,l,be⟩
   have aa:=(Y.c0 l).t2
   refine wl_nil (qh ⟨aa.hasK l.le,aa.hasObj m0⟩ (fun _=>trivial) (gn ?_))
   obtain⟨cd,bf,bg⟩:=ob bd
   refine lk co59 (ok_spec_l2Terms F aa.enter0 (aC.mono ((X.trans y).trans l.le)) (aD.mono ((X.trans y).trans l.le)) be bf) ?_
   rintro ce cf ⟨bh,bi,bj,ag,rfl,ab,ax⟩
   have ah:=(aa.c0 ab).t3
   refine wl_nil (qh ⟨ah.hasK (l.le.trans ab.le),ah.hasObj m1⟩ (fun _=>trivial) (gt (rv_assign u) (gd' (qr (lv (r_0 u) (nq ?_))))))
   obtain⟨bk,bl,bm⟩:=ob bg
   refine wc_cutg (fun E' w'=>∃J O R S,E'=[(1,V3 C f i),(2,sv q2),(3,pt k),(7,V3 J O R),(8,V6 m.2)]∧SH w K [] w' S [obj k [V3 A a b,V3 B c d] 38,tail (V3 J O R) 9 1]∧KLe ag S∧SliceAt tStr S J O R bk) ?_ ?_
   ·refine wc_block ?_
    obtain⟨cg,bn,bo⟩:=ob bl
    have bp:=ah.sb (sd (sk (sk sz)))
    refine qw (fun (ac:(List Str)×Int) E' w'=>∃T U V W,E'=[(1,V3 C f i),(2,sv q2),(3,pt k),(7,V3 T U V),(8,V6 m.2),(9,V3 bh bi bj),(10,V6 ac.2)]∧SH w K [] w' W [obj k [V3 A a b,V3 B c d] 38,tail (V3 T U V) 9 1]∧KLe ag W∧SliceAt tStr W T U V ac.1∧rng64 ac.2) bn ⟨o,q,s,ag,u,bp,kr,(am.mono (l.le.trans ab.le)),d_0⟩ ?_
    rintro ac _ ch cj bq br ⟨T,U,V,W,rfl,ai,ad,ay,ck⟩
    refine wc_seq (sr (mv u (mv u (lv (rv_len underlying101 u (ax.mono ad)) (lv (rv_lss u u) (nq (wcc bq u (fun bs aj=>?_) (fun bs aj=>?_))))))))
    ·refine wc_skip (qs (wc_block (wc_region (mv u (mv u (mv u ?_))))))
     obtain⟨az,bu,bv⟩:=ob aj
     refine li underlying101 tf104 (ax.mono ad) bu fun bz bA cl bB bC=>?_
     obtain⟨rfl,bD,cm⟩:=bB
     have bE:AtK _ bz bA [sv az.Text,V6 az.At]:=bC
     refine fa ff104_0 u (lv (rv_load1 tf9 u ai (bE 0 _ u)) ?_)
     obtain⟨cn,bF,bG⟩:=ob bv
     have aA:=ai.f1
     refine lk co187 (ok_spec_l7Put F aA.e1 ay bD bF) ?_
     rintro cp cq ⟨bH,bI,bJ,bK,rfl,aB,bL⟩
     have bM:=(aA.c1 aB).t2
     refine av u (nb (qe_seq (wc_region (mv u (lv (rv_add u u) (av u (wl_nil ?_)))))))
     cases oi bG
     exact qd ⟨_,u,bH,bI,bJ,bK,u,bM.f1,(ad.trans aB.le),bL,(w64_rng _)⟩
    refine wc_exit (qe_then_exit (qe_then_exit ?_))
    cases oi aj
    cases br _ u
    refine qe_block_eq ?_
    cases oi bo
    exact qd ⟨T,U,V,W,u,ai,ad,ay⟩
   rintro _ cr ⟨J,O,R,S,rfl,bN,bO,bP⟩
   refine qe_block (qe_seq (wc_region (mv u (lv (rv_add u u) (av u (wl_nil ?_))))))
   cases oi bm
   exact qd ⟨_,u,J,O,R,S,u,bN,(((y.trans l.le).trans ab.le).trans bO),bP,(w64_rng _)⟩
  refine wc_exit (qe_then_exit (qe_then_exit ?_))
  cases oi af
  cases aQ _ u
  refine qe_block_eq ?_
  cases oi aO
  exact qd ⟨o,q,s,x,u,al.s,y,am⟩
 rintro _ ct ⟨D,G,H,I,rfl,bQ,cu,bR⟩
 refine qr (mv u (av u (nq (wc_ret ?_))))
 cases oi aM
 exact ey results141 ⟨D,G,H,I,u,bQ,bR⟩

theorem ok_spec_l7Post {q0:GConf}{q1:GDoc}{q2:Str}{q3:Str}{r:(List Int)}(hS:SH w K [] w K [])(ai:SliceAt tStr K A a b q0.Stops)(aj:SliceAt tGSyn K B c d q0.Syns)(ak:rng64 q1.Id)(al:SliceAt tGField K C f i q1.Fields)(am:SliceAt tGAttr K D k l q1.Nums)(an:q2.length≤maxLen)(bu:q3.length≤maxLen)(hm:M.spec_l7Post F q0 q1 q2 q3=some r):
  Calls prog 189 #[.agg #[V3 A a b,V3 B c d],.agg #[V6 q1.Id,V3 C f i,V3 D k l],sv q2,sv q3] w fun e w'=>∃a_1 n_2 c_3 K',e= .returned (V3 a_1 n_2 c_3)∧SH w K [] w' K' [tail (V3 a_1 n_2 c_3) 3 1]∧SliceAt tInt K' a_1 n_2 c_3 r:=by
 rw [M.spec_l7Post] at hm
 refine ci func189 u ntmps189 (sr (bx u hS fun ae bv ao=>?_))
 have ap:SH _ _ _ _ _ [obj ae [V3 A a b,V3 B c d] 38]:=ao
 refine bx u ap fun af bz aq=>?_
 have ar:SH _ _ _ _ _ [obj af [V6 q1.Id,V3 C f i,V3 D k l] 64,_]:=aq
 refine lv (r_n u) (nr (b0 tInt underlying30 tf3 ar fun au bA aw U ax ay=>(av u (ns ?_))))
 have G:=ay.drew
 refine wh1 (fun w'=>Holds aw w'∧HasObj ae [V3 A a b,V3 B c d] w'∧HasObj af [V6 q1.Id,V3 C f i,V3 D k l] w') (fun w'=>True) 6 [] mixed ⟨G.hasK kr,G.hasObj m2,G.hasObj m1⟩ (fun _=>trivial) (gh (fun _ h=>rh_loadmS (ds:=[V3 A a b,V3 B c d]) tf38 u u u h.2.1) (gh (fun _ h=>rh_loadmS (ds:=[V6 q1.Id,V3 C f i,V3 D k l]) tf64 u u u h.2.2) (gt (rv_move u) (gn ?_))))
 obtain⟨bB,az,aA⟩:=ob hm
 refine lk co188 (ok_spec_l6Field F G.enter0 ak (al.mono U) (am.mono U) an az) ?_
 rintro bC bD ⟨bE,rfl,m,aB⟩
 have H:=(G.c0 m).t3
 refine wl_nil (qh ⟨H.hasK m.le,H.hasObj m2,H.hasObj m1⟩ (fun _=>trivial) (gn ?_))
 obtain⟨bF,aC,aD⟩:=ob aA
 refine lk co59 (ok_spec_l2Terms F H.enter0 (ai.mono (U.trans m.le)) (aj.mono (U.trans m.le)) aB aC) ?_
 rintro bG bH ⟨aE,aF,aG,X,rfl,Y,aa⟩
 have V:=(H.c0 Y).t4
 refine wl_nil (qh ⟨V.hasK (m.le.trans Y.le),V.hasObj m3,V.hasObj m2⟩ (fun _=>trivial) (gt (rv_assign u) (gd' (qs (sr (lv (r_0 u) (nq ?_)))))))
 obtain⟨aH,aI,aJ⟩:=ob aD
 refine wc_cutg (fun E' w'=>∃I J O R,E'=[(9,V3 I J O)]∧SH w K [] w' R [tail (V3 I J O) 3 1]∧KLe X R∧SliceAt tInt R I J O aH) ?_ ?_
 ·refine wc_block ?_
  obtain⟨bI,aK,aL⟩:=ob aI
  have aM:=V.sb (sd (sk (sd (sd sz))))
  refine qw (fun (W:(List Int)×Int) E' w'=>∃o q s x,E'=[(3,sv q3),(9,V3 o q s),(10,V3 aE aF aG),(11,V6 W.2)]∧SH w K [] w' x [tail (V3 o q s) 3 1]∧KLe X x∧SliceAt tInt x o q s W.1∧rng64 W.2) aK ⟨au,0,0,X,u,aM,kr,(ax.mono (m.le.trans Y.le)),d_0⟩ ?_
  rintro W _ bJ bK aN aO ⟨o,q,s,x,rfl,S,y,ab,bL⟩
  refine wc_seq (sr (mv u (mv u (lv (rv_len underlying101 u (aa.mono y)) (lv (rv_lss u u) (nq (wcc aN u (fun aP ac=>?_) (fun aP ac=>?_))))))))
  ·refine wc_skip (qs (wc_block (sr (mv u (mv u ?_)))))
   obtain⟨ag,aQ,aR⟩:=ob ac
   refine li underlying101 tf104 (aa.mono y) aQ fun aS aT bM aU aV=>?_
   obtain⟨rfl,bN,bO⟩:=aU
   have aW:AtK _ aS aT [sv ag.Text,V6 ag.At]:=aV
   refine fa ff104_0 u (lv (rv_load1 tf9 u S (aW 0 _ u)) (mv u (lv (rv_seql u u) (nq (wcc aR u (fun aX ad=>?_) (fun aX ad=>?_))))))
   ·refine wc_region (mv u (mv u (mv u ?_)))
    obtain⟨T,aY,aZ⟩:=ob ad
    refine li underlying101 tf104 (aa.mono y) aY fun ba bb bP bc bd=>?_
    obtain⟨rfl,bQ,be⟩:=bc
    have bf:AtK _ ba bb [sv T.Text,V6 T.At]:=bd
    refine fa ff104_1 u (lv (rv_load1 tf3 u S (bf 1 _ u)) (lb tInt (V6 T.At) [V6 T.At] T.At underlying30 tf3 ⟨u,be⟩ S fun bR bS bT ah bg bh=>?_))
    obtain⟨bU,bi,bj⟩:=ob aZ
    refine lp underlying30 tf3 (ab.mono ah) bg bi bh.f1 fun bk bl bm bV bn bo bp bq=>(av u (nb (qe_seq (wc_region (mv u (lv (rv_add u u) (av u (wl_nil ?_))))))))
    cases oi bj
    exact qd ⟨_,u,bk,bl,bm,bn,u,bq.s,((y.trans ah).trans bo),bp,(w64_rng _)⟩
   refine wc_skip (qe_block (qe_seq (wc_region (mv u (lv (rv_add u u) (av u (wl_nil ?_)))))))
   cases oi ad
   exact qd ⟨_,u,o,q,s,x,u,S,y,ab,(w64_rng _)⟩
  refine wc_exit (qe_then_exit (qe_then_exit ?_))
  cases oi ac
  cases aO _ u
  refine qe_block_eq ?_
  cases oi aL
  exact qd ⟨o,q,s,x,u,S,y,ab⟩
 rintro _ bW ⟨I,J,O,R,rfl,br,bX,bs⟩
 refine qr (mv u (av u (nq (wc_ret ?_))))
 cases oi aJ
 exact ey results189 ⟨I,J,O,R,u,br,bs⟩

theorem ok_spec_l7Entry {q0:GConf}{q1:List GDoc}{q2:Str}{q3:Str}{r:GEntry}(hS:SH w K [] w K [])(aG:SliceAt tStr K A a b q0.Stops)(aH:SliceAt tGSyn K B c d q0.Syns)(aa:SliceAt tGDoc K C f i q1)(ao:q2.length≤maxLen)(ap:q3.length≤maxLen)(hm:M.spec_l7Entry F q0 q1 q2 q3=some r):
  Calls prog 142 #[.agg #[V3 A a b,V3 B c d],V3 C f i,sv q2,sv q3] w fun e w'=>∃a_3 n_4 c_5 K',e= .returned (.agg #[sv r.Field,sv r.Term,V3 a_3 n_4 c_5])∧SH w K [] w' K' [tail (V3 a_3 n_4 c_5) 153 2]∧r.Field.length≤maxLen∧r.Term.length≤maxLen∧SliceAt tGPost K' a_3 n_4 c_5 r.Posts:=by
 rw [M.spec_l7Entry] at hm
 refine ci func142 u ntmps142 (sr (bx u hS fun T bL aI=>?_))
 have aJ:SH _ _ _ _ _ [obj T [V3 A a b,V3 B c d] 38]:=aI
 refine al tf97 aJ fun J bM aK=>?_
 have aL:SH _ _ _ _ _ [obj J [sv [],sv [],V3 none 0 0] 97,_]:=aK
 refine nr (mv u (mv u (lv (rv_build (cs:=#[sv q2,sv q3,V3 none 0 0]) sp97 tf97 u (by kernel_rfl)) (al tf97 aL fun H bN aM=>?_))))
 have aN:SH _ _ _ _ _ [obj H [sv [],sv [],V3 none 0 0] 97,_,_]:=aM
 refine lw [sv q2,sv q3,V3 none 0 0] tf97 aN fun bO aO=>(nsr (lv (r_0 u) (nq ?_)))
 obtain⟨l,aP,aQ⟩:=ob hm
 refine wc_cutg (fun E' w'=>∃o q s O,E'=[(8,pt J),(9,pt H)]∧SH w K [] w' O [obj J [sv [],sv [],V3 none 0 0] 97,obj H [sv l.Field,sv l.Term,V3 o q s] 97,tail (V3 o q s) 153 2]∧KLe K O∧l.Field.length≤maxLen∧l.Term.length≤maxLen∧SliceAt tGPost O o q s l.Posts) ?_ ?_
 ·refine wc_block ?_
  obtain⟨bP,aR,aS⟩:=ob aP
  have aT:=aO.nil 153 2
  refine qw (fun (k:Int×GEntry) E' w'=>∃x y D I,E'=[(1,V3 C f i),(2,sv q2),(3,sv q3),(4,pt T),(8,pt J),(9,pt H),(10,V6 k.1)]∧SH w K [] w' I [obj T [V3 A a b,V3 B c d] 38,obj J [sv [],sv [],V3 none 0 0] 97,obj H [sv k.2.Field,sv k.2.Term,V3 x y D] 97,tail (V3 x y D) 153 2]∧KLe K I∧rng64 k.1∧k.2.Field.length≤maxLen∧k.2.Term.length≤maxLen∧SliceAt tGPost I x y D k.2.Posts) aR ⟨none,0,0,K,u,aT.f1.f2.f3,kr,d_0,ao,ap,(SliceAt.nil _ _)⟩ ?_
  rintro k _ bQ bR aU aV ⟨x,y,D,I,rfl,aq,m,bS,ab,ac,ad⟩
  refine wc_seq (sr (mv u (mv u (lv (rv_len underlying40 u (aa.mono m)) (lv (rv_lss u u) (nq (wcc aU u (fun aW ae=>?_) (fun aW ae=>?_))))))))
  ·refine wc_skip (qs (wc_block (wc_seq ?_)))
   have U:=aq.drew
   refine wh1 (fun w'=>Holds I w'∧HasObj T [V3 A a b,V3 B c d] w') (fun w'=>True) 9 [] mixed ⟨U.hasK kr,U.hasObj m0⟩ (fun _=>trivial) (gh (fun _ h=>rh_loadmS (ds:=[V3 A a b,V3 B c d]) tf38 u u u h.2) (gt (rv_move u) (gt (rv_move u) ?_)))
   obtain⟨ar,aX,aY⟩:=ob ae
   refine gi underlying40 tf64 (aa.mono m) aX fun aZ ba bT bb bc=>?_
   obtain⟨au,aw,ax,ay,az,aA,rfl,bd,be,bf⟩:=bb
   have bg:AtK _ aZ ba [V6 ar.Id,V3 au aw ax,V3 ay az aA]:=bc
   refine gh (fun _ h=>rh_loadS (cs:=[V6 ar.Id,V3 au aw ax,V3 ay az aA]) tf64 u bg u h.1) (gt (rv_move u) (gt (rv_move u) (gn ?_)))
   obtain⟨bh,bi,bj⟩:=ob aY
   refine lk co189 (ok_spec_l7Post F U.enter0 (aG.mono m) (aH.mono m) bd be bf ao ap bi) ?_
   rintro bU bV ⟨V,W,X,aB,rfl,G,aC⟩
   have Y:=(U.c0 G).t5
   refine wl_nil (qh ⟨Y.hasK G.le,Y.hasObj m1⟩ (fun _=>trivial) (gt (rv_assign u) (gd' (qr (mv u (lv (rv_len underlying30 u aC) (lv (rv_gtr u u) (nq (wcc bj u (fun bk af=>?_) (fun bk af=>?_))))))))))
   ·have ag:=Y.drew
    refine wh1 (fun w'=>Holds aB w') (fun w'=>HasObj H [sv k.2.Field,sv k.2.Term,V3 x y D] w') 12 [(1,10),(1,11),(1,12),(10,11),(10,12),(11,12)] mixed (ag.hasK kr) (fun _=>ag.hasObj (.tail _ (.tail _ (.tail _ (.head _))))) (gt (rv_fieldAddr ff97_2 u) (gf (fun _ h=>rh_loadm1 tf95 u u h) (gt (rv_move u) (gt (rv_move u) ?_))))
    obtain⟨R,bl,bm⟩:=ob af
    refine gi underlying40 tf64 (aa.mono (m.trans G.le)) bl fun bn bo bW bp bq=>?_
    obtain⟨br,bs,bu,bv,bz,bA,rfl,bB,bX,bY⟩:=bp
    have bC:AtK _ bn bo [V6 R.Id,V3 br bs bu,V3 bv bz bA]:=bq
    refine gt (rv_fieldAddr ff64_0 u) (gh (fun _ h=>rh_load1 tf3 u (bC 0 _ u) h) (gt (rv_move u) (gt (rv_build (cs:=#[V6 R.Id,V3 V W X]) sp153 tf153 u (by kernel_rfl)) (gn (lb tGPost (.agg #[V6 R.Id,V3 V W X]) [V6 R.Id,V3 V W X] (GPost.mk R.Id bh) underlying95 tf153 ⟨V,W,X,u,bB,aC⟩ ag fun bZ ca cb S bD ah=>(wl_nil (qh (ah.hasK S) (fun _=>ah.hasObj (.tail _ (.tail _ (.tail _ (.tail _ (.head _)))))) (gn ?_))))))))
    obtain⟨cc,bE,bF⟩:=ob bm
    refine lp underlying95 tf153 (ad.mono (G.le.trans S)) bD bE ah.f5 fun ai aj ak cd bG am bH an=>(wl_nil (qh (an.hasK (S.trans am)) (fun _=>an.hasObj (.tail _ (.tail _ (.tail _ (.tail _ (.tail _ (.head _))))))) (gt (rv_fieldAddr ff97_2 u) (gn (ls [sv k.2.Field,sv k.2.Term,V3 ai aj ak] (V3 ai aj ak) tf95 an.f5 fun ce aD=>(wl_nil (qh (aD.hasK (S.trans am)) (fun h=>by cases h) (gd' (qe_block (qe_seq (wc_region ?_)))))))))))
    refine mv u (lv (rv_add u u) (av u (wl_nil ?_)))
    cases oi bF
    exact qd ⟨_,u,ai,aj,ak,bG,u,aD.f1.f1.f5.f5.s,(((m.trans G.le).trans S).trans am),(w64_rng _),ab,ac,bH⟩
   refine wc_skip (qe_block (qe_seq (wc_region (mv u (lv (rv_add u u) (av u (wl_nil ?_)))))))
   cases oi af
   exact qd ⟨_,u,x,y,D,aB,u,Y.s,(m.trans G.le),(w64_rng _),ab,ac,(ad.mono G.le)⟩
  refine wc_exit (qe_then_exit (qe_then_exit ?_))
  cases oi ae
  cases aV _ u
  refine qe_block_eq ?_
  cases oi aS
  exact qd ⟨x,y,D,I,u,aq.s,m,ab,ac,ad⟩
 rintro _ cf ⟨o,q,s,O,rfl,aE,cg,bI,bJ,bK⟩
 refine qr (lv (rv_loadmS (ds:=[sv l.Field,sv l.Term,V3 o q s]) tf97 u m1 aE u u) (lw [sv l.Field,sv l.Term,V3 o q s] tf97 aE fun ch aF=>(nq (wc_ret ?_))))
 cases oi aQ
 exact ez results142 tf97 aF m0 ⟨o,q,s,O,u,aF.s,bI,bJ,bK⟩

theorem ok_spec_l7CopyDoc {q0:GDoc}{r:GDoc}(hS:SH w K [] w K [])(G:rng64 q0.Id)(H:SliceAt tGField K A a b q0.Fields)(I:SliceAt tGAttr K B c d q0.Nums)(hm:M.spec_l7CopyDoc F q0=some r):
  Calls prog 143 #[.agg #[V6 q0.Id,V3 A a b,V3 B c d]] w fun e w'=>∃a_2 n_3 c_4 a_6 n_7 c_8 K',e= .returned (.agg #[V6 r.Id,V3 a_2 n_3 c_4,V3 a_6 n_7 c_8])∧SH w K [] w' K' [tail (V3 a_2 n_3 c_4) 118 2,tail (V3 a_6 n_7 c_8) 135 2]∧rng64 r.Id∧SliceAt tGField K' a_2 n_3 c_4 r.Fields∧SliceAt tGAttr K' a_6 n_7 c_8 r.Nums:=by
 rw [M.spec_l7CopyDoc] at hm
 refine ci func143 u ntmps143 (sr (bx u hS fun aC aX aE=>?_))
 have aF:SH _ _ _ _ _ [obj aC [V6 q0.Id,V3 A a b,V3 B c d] 64]:=aE
 refine al tf64 aF fun aG aY aH=>?_
 have aI:SH _ _ _ _ _ [obj aG [V6 0,V3 none 0 0,V3 none 0 0] 64,_]:=aH
 refine ns ?_
 obtain⟨aZ,J,aJ⟩:=ob hm
 obtain⟨ba,O,R⟩:=ob aJ
 have v:=aI.drew
 refine j_0 (fun w'=>Holds K w'∧HasObj aC [V6 q0.Id,V3 A a b,V3 B c d] w') 12 [] mixed ⟨v.hasK kr,v.hasObj m1⟩ (jv 0 u (rv_fieldAddr ff64_0 u) (jh 1 u (fun _ h=>rh_loadm1 tf3 u u h.2) (jv 3 u (rv_fieldAddr ff64_1 u) (jh 4 u (fun _ h=>rh_loadm1 tf61 u u h.2) (jv 7 u (rv_fieldAddr ff64_2 u) (jh 8 u (fun _ h=>rh_loadm1 tf62 u u h.2) (j2 2 6 u u ?_ ?_)))))))
 ·refine b0 tGField underlying61 tf118 v fun bb bc bd f aD x=>(j_o ⟨x.hasK f,x.hasObj m2⟩ (j2 5 6 u u ?_ ?_))
  ·refine lp underlying61 tf118 aD (H.mono f) J x fun S T U be bf m aK V=>(j_o ⟨V.hasK (f.trans m),V.hasObj m2⟩ (j1 6 u (b0 tGAttr underlying62 tf135 V fun bg bh bi o aL W=>(j_o ⟨W.hasK ((f.trans m).trans o),W.hasObj m3⟩ (j1 9 u (lp underlying62 tf135 aL (I.mono ((f.trans m).trans o)) O W fun X Y aa bj aM ab aN ac=>(j_o ⟨ac.hasK (((f.trans m).trans o).trans ab),ac.hasObj m3⟩ (jv 10 u (rv_build (cs:=#[V6 q0.Id,V3 S T U,V3 X Y aa]) sp64 tf64 u (by kernel_rfl)) (j1 11 u ?_)))))))))
   refine lw [V6 q0.Id,V3 S T U,V3 X Y aa] tf64 ac.f2 fun bk y=>(j_o ⟨y.hasK (((f.trans m).trans o).trans ab),y.hasObj m3⟩ (jd (qe_seq (wc_ret ?_))))
   cases oi R
   exact ez results143 tf64 y m0 ⟨S,T,U,X,Y,aa,aM,u,y.f1.f2.s,G,(aK.mono (o.trans ab)),aN⟩
  refine b0 tGAttr underlying62 tf135 x fun bl bm bn i aO ad=>(j_o ⟨ad.hasK (f.trans i),ad.hasObj m3⟩ (j1 5 u (lp underlying61 tf118 (aD.mono i) (H.mono (f.trans i)) J ad.f1 fun ae af ag bo bp q aP ah=>(j_o ⟨ah.hasK ((f.trans i).trans q),ah.hasObj m3⟩ (j1 9 u (lp underlying62 tf135 (aO.mono q) (I.mono ((f.trans i).trans q)) O ah.f1 fun ai aj ak bq aQ am aR an=>(j_o ⟨an.hasK (((f.trans i).trans q).trans am),an.hasObj m3⟩ (jv 10 u (rv_build (cs:=#[V6 q0.Id,V3 ae af ag,V3 ai aj ak]) sp64 tf64 u (by kernel_rfl)) (j1 11 u ?_)))))))))
  refine lw [V6 q0.Id,V3 ae af ag,V3 ai aj ak] tf64 an.f2 fun br C=>(j_o ⟨C.hasK (((f.trans i).trans q).trans am),C.hasObj m3⟩ (jd (qe_seq (wc_ret ?_))))
  cases oi R
  exact ez results143 tf64 C m0 ⟨ae,af,ag,ai,aj,ak,aQ,u,C.f1.f2.s,G,(aP.mono am),aR⟩
 refine b0 tGAttr underlying62 tf135 v fun bs bu bv k aS ao=>(j_o ⟨ao.hasK k,ao.hasObj m2⟩ (j1 2 u (b0 tGField underlying61 tf118 ao fun bz bA bB l aT ap=>(j_o ⟨ap.hasK (k.trans l),ap.hasObj m3⟩ (j1 5 u (lp underlying61 tf118 aT (H.mono (k.trans l)) J ap fun aq ar au bC bD s aU aw=>(j_o ⟨aw.hasK ((k.trans l).trans s),aw.hasObj m3⟩ (j1 9 u (lp underlying62 tf135 (aS.mono (l.trans s)) (I.mono ((k.trans l).trans s)) O aw.f1 fun ax ay az bE aV aA aW aB=>?_)))))))))
 refine j_o ⟨aB.hasK (((k.trans l).trans s).trans aA),aB.hasObj m3⟩ (jv 10 u (rv_build (cs:=#[V6 q0.Id,V3 aq ar au,V3 ax ay az]) sp64 tf64 u (by kernel_rfl)) (j1 11 u (lw [V6 q0.Id,V3 aq ar au,V3 ax ay az] tf64 aB.f2 fun bF D=>(j_o ⟨D.hasK (((k.trans l).trans s).trans aA),D.hasObj m3⟩ (jd (qe_seq (wc_ret ?_)))))))
 cases oi R
 exact ez results143 tf64 D m0 ⟨aq,ar,au,ax,ay,az,aV,u,D.f1.f2.s,G,(aU.mono aA),aW⟩

theorem ok_spec_l7Of {q0:GConf}{q1:List GDoc}{r:GSeg}(hS:SH w K [] w K [])(bH:SliceAt tStr K A a b q0.Stops)(bI:SliceAt tGSyn K B c d q0.Syns)(aw:SliceAt tGDoc K C f i q1)(hm:M.spec_l7Of F q0 q1=some r):
  Calls prog 97 #[.agg #[V3 A a b,V3 B c d],V3 C f i] w fun e w'=>∃a_1 n_2 c_3 a_5 n_6 c_7 cs_8 K',e= .returned (.agg #[V3 a_1 n_2 c_3,V3 a_5 n_6 c_7])∧SH w K [] w' K' [tail (V3 a_1 n_2 c_3) 64 3,rowI (V3 a_5 n_6 c_7) cs_8 97 3]∧SliceAt tGDoc K' a_1 n_2 c_3 r.Docs∧RowAt true tGEntry K' cs_8 r.Entries∧n_6=r.Entries.length:=by
 rw [M.spec_l7Of] at hm
 refine ci func97 u ntmps97 (sr (bx u hS fun o ee cc=>?_))
 have cd:SH _ _ _ _ _ [obj o [V3 A a b,V3 B c d] 38]:=cc
 refine al tf43 cd fun l ef ce=>?_
 have cf:SH _ _ _ _ _ [obj l [V3 none 0 0,V3 none 0 0] 43,_]:=ce
 refine nr (lv (rv_build (cs:=#[V3 none 0 0,V3 none 0 0]) sp43 tf43 u (by kernel_rfl)) (al tf43 cf fun k eg cg=>?_))
 have ch:SH _ _ _ _ _ [obj k [V3 none 0 0,V3 none 0 0] 43,_,_]:=cg
 refine lw [V3 none 0 0,V3 none 0 0] tf43 ch fun eh bJ=>(nr (mv u ?_))
 obtain⟨ei,cj,ck⟩:=ob hm
 refine lk co140 (ok_spec_l7Names F bJ.enter0 aw cj) ?_
 rintro ej ek ⟨aW,aX,aY,aZ,rfl,q,ba⟩
 have cl:=(bJ.c0 q).t4
 refine av u (nsr (lv (r_0 u) (nq ?_)))
 obtain⟨bb,cm,cn⟩:=ob ck
 refine wc_cutg (fun E' w'=>∃ax ay az aL aA aM cs53 x,E'=[(1,V3 C f i),(4,pt l),(5,pt k)]∧SH w K [] w' x [obj l [V3 none 0 0,V3 none 0 0] 43,obj k [V3 ax ay az,V3 aL aA aM] 43,rowI (V3 aL aA aM) cs53 97 3,tail (V3 ax ay az) 64 3]∧KLe aZ x∧SliceAt tGDoc x ax ay az bb.Docs∧RowAt true tGEntry x cs53 bb.Entries∧aA=bb.Entries.length) ?_ ?_
 ·refine wc_block ?_
  obtain⟨el,cp,cq⟩:=ob cm
  have cr:=SH.rowNil cl 97 3
  have ct:=cr.nil 64 3
  have cu:=ct.f1.f3.f4.f5.sb (sk (sk (sk (sk (sk (sd sz))))))
  refine qw (fun (y:Int×GSeg) E' w'=>∃ac ad ae aB af aC cs72 S,E'=[(1,V3 C f i),(2,pt o),(4,pt l),(5,pt k),(6,V3 aW aX aY),(7,V6 y.1)]∧SH w K [] w' S [obj o [V3 A a b,V3 B c d] 38,obj l [V3 none 0 0,V3 none 0 0] 43,obj k [V3 ac ad ae,V3 aB af aC] 43,rowI (V3 aB af aC) cs72 97 3,tail (V3 ac ad ae) 64 3]∧KLe aZ S∧rng64 y.1∧SliceAt tGDoc S ac ad ae y.2.Docs∧RowAt true tGEntry S cs72 y.2.Entries∧af=y.2.Entries.length) cp ⟨none,0,0,none,0,0,[],aZ,u,cu,kr,d_0,(SliceAt.nil _ _),(RowAt.nil tGEntry _),u⟩ ?_
  rintro y _ em en cv cw ⟨ac,ad,ae,aB,af,aC,cs72,S,rfl,bK,m,eo,bL,hrow73,hm74⟩
  refine wc_seq (sr (mv u (mv u (lv (rv_len underlying22 u (ba.mono m)) (lv (rv_lss u u) (nq (wcc cv u (fun cx bc=>?_) (fun cx bc=>?_))))))))
  ·refine wc_skip (qs (wc_block (wc_seq ?_)))
   have aN:=bK.drew
   refine wh1 (fun w'=>Holds S w'∧HasObj o [V3 A a b,V3 B c d] w') (fun w'=>True) 8 [] mixed ⟨aN.hasK kr,aN.hasObj m0⟩ (fun _=>trivial) (gh (fun _ h=>rh_loadmS (ds:=[V3 A a b,V3 B c d]) tf38 u u u h.2) (gt (rv_move u) (gt (rv_move u) (gt (rv_move u) ?_))))
   obtain⟨cy,cz,cA⟩:=ob bc
   refine gi underlying22 tf9 (ba.mono m) cz fun cB cC ep cD cE=>?_
   obtain⟨rfl,cF⟩:=cD
   have cG:AtK _ cB cC [sv cy]:=cE
   refine gh (fun _ h=>rh_load1 tf9 u (cG 0 _ u) h.1) (gn ?_)
   obtain⟨eq,cH,cI⟩:=ob cA
   refine lk co141 (ok_spec_l7Terms F aN.enter0 (bH.mono (q.le.trans m)) (bI.mono (q.le.trans m)) (aw.mono (q.le.trans m)) cF cH) ?_
   rintro es et ⟨cJ,cK,cL,bd,rfl,s,bM⟩
   have be:=(aN.c0 s).t6
   refine wl_nil (qh ⟨be.hasK s.le,be.hasObj m1⟩ (fun _=>trivial) (gt (rv_assign u) (gd' (qr (lv (r_0 u) (nq ?_))))))
   obtain⟨bf,cM,cN⟩:=ob cI
   refine wc_cutg (fun E' w'=>∃aD aE aF aO aG aP cs125 ag,E'=[(1,V3 C f i),(2,pt o),(4,pt l),(5,pt k),(6,V3 aW aX aY),(7,V6 y.1)]∧SH w K [] w' ag [obj o [V3 A a b,V3 B c d] 38,obj l [V3 none 0 0,V3 none 0 0] 43,obj k [V3 aD aE aF,V3 aO aG aP] 43,rowI (V3 aO aG aP) cs125 97 3,tail (V3 aD aE aF) 64 3]∧KLe bd ag∧SliceAt tGDoc ag aD aE aF bf.Docs∧RowAt true tGEntry ag cs125 bf.Entries∧aG=bf.Entries.length) ?_ ?_
   ·refine wc_block ?_
    obtain⟨eu,cO,cP⟩:=ob cM
    have cQ:=be.sb (sd (sk (sk (sk (sk (sk sz))))))
    refine qw (fun (ah:Int×GSeg) E' w'=>∃D G H aH ai aI cs144 T,E'=[(1,V3 C f i),(2,pt o),(4,pt l),(5,pt k),(6,V3 aW aX aY),(7,V6 y.1),(8,V3 cJ cK cL),(9,V6 ah.1)]∧SH w K [] w' T [obj o [V3 A a b,V3 B c d] 38,obj l [V3 none 0 0,V3 none 0 0] 43,obj k [V3 D G H,V3 aH ai aI] 43,rowI (V3 aH ai aI) cs144 97 3,tail (V3 D G H) 64 3]∧KLe bd T∧rng64 ah.1∧SliceAt tGDoc T D G H ah.2.Docs∧RowAt true tGEntry T cs144 ah.2.Entries∧ai=ah.2.Entries.length) cO ⟨ac,ad,ae,aB,af,aC,cs72,bd,u,cQ,kr,d_0,(bL.mono s.le),(RowAt.mono s.le hrow73),hm74⟩ ?_
    rintro ah _ ev ew cR cS ⟨D,G,H,aH,ai,aI,cs144,T,rfl,bN,I,ex,bO,hrow145,hm146⟩
    refine wc_seq (sr (mv u (mv u (lv (rv_len underlying22 u (bM.mono I)) (lv (rv_lss u u) (nq (wcc cR u (fun cT bg=>?_) (fun cT bg=>?_))))))))
    ·refine wc_skip (qs (wc_block ?_))
     have aJ:=bN.drew
     refine wh1 (fun w'=>Holds T w'∧HasObj o [V3 A a b,V3 B c d] w') (fun w'=>HasObj k [V3 D G H,V3 aH ai aI] w') 16 [(1,14),(1,15),(1,16),(14,15),(14,16),(15,16)] mixed ⟨aJ.hasK kr,aJ.hasObj m0⟩ (fun _=>aJ.hasObj (.tail _ (.tail _ (.head _)))) (gt (rv_fieldAddr ff43_1 u) (gf (fun _ h=>rh_loadm1 tf41 u u h) (gh (fun _ h=>rh_loadmS (ds:=[V3 A a b,V3 B c d]) tf38 u u u h.2) (gt (rv_move u) (gt (rv_move u) (gt (rv_move u) ?_))))))
     obtain⟨cU,cV,cW⟩:=ob bg
     refine gi underlying22 tf9 (ba.mono ((m.trans s.le).trans I)) cV fun cX cY eA cZ da=>?_
     obtain⟨rfl,db⟩:=cZ
     have dc:AtK _ cX cY [sv cU]:=da
     refine gh (fun _ h=>rh_load1 tf9 u (dc 0 _ u) h.1) (gt (rv_move u) (gt (rv_move u) ?_))
     obtain⟨dd,de,df⟩:=ob cW
     refine gi underlying22 tf9 (bM.mono I) de fun dg dh eB di dj=>?_
     obtain⟨rfl,dk⟩:=di
     have dl:AtK _ dg dh [sv dd]:=dj
     refine gh (fun _ h=>rh_load1 tf9 u (dl 0 _ u) h.1) (gn ?_)
     obtain⟨aK,dm,dn⟩:=ob df
     refine lk co142 (ok_spec_l7Entry F aJ.enter0 (SliceAt.mono (((q.le.trans m).trans s.le).trans I) bH) (SliceAt.mono (((q.le.trans m).trans s.le).trans I) bI) (SliceAt.mono (((q.le.trans m).trans s.le).trans I) aw) db dk dm) ?_
     rintro eC eD ⟨bh,bi,bj,eE,rfl,J,dp,dq,dr⟩
     have aQ:=(aJ.c0 J).t6
     refine wl_nil (qh ⟨aQ.hasK J.le,aQ.hasObj m1⟩ (fun _=>aQ.hasObj (.tail _ (.tail _ (.tail _ (.head _))))) (gn (lb tGEntry (.agg #[sv aK.Field,sv aK.Term,V3 bh bi bj]) [sv aK.Field,sv aK.Term,V3 bh bi bj] aK underlying41 tf97 ⟨bh,bi,bj,u,dp,dq,dr⟩ aQ fun eF eG dt aj du aR=>(wl_nil (qh ⟨aR.hasK (J.le.trans aj),aR.hasObj m2⟩ (fun _=>aR.hasObj (.tail _ (.tail _ (.tail _ (.tail _ (.head _)))))) (gn ?_))))))
     obtain⟨eH,dv,dw⟩:=ob dn
     refine wl_appendR (t:=tGEntry) wn u underlying41 tf97 u u u u (RowAt.mono (J.le.trans aj) hrow145) hm146 du dv aR.f5 fun bk bl bm cs202 eI hrow204 hm205 aS=>(wl_nil (qh ⟨aS.hasK (J.le.trans aj),aS.hasObj m3⟩ (fun _=>aS.hasObj (.tail _ (.tail _ (.tail _ (.tail _ (.tail _ (.head _))))))) (gt (rv_fieldAddr ff43_1 u) (gn (ls [V3 D G H,V3 bk bl bm] (V3 bk bl bm) tf41 aS.f5 fun eJ bn=>(wl_nil (qh ⟨bn.hasK (J.le.trans aj),bn.hasObj m4⟩ (fun h=>by cases h) (gd' (qe_block (qe_seq (wc_region ?_)))))))))))
     refine mv u (lv (rv_add u u) (av u (wl_nil ?_)))
     cases oi dw
     exact qd ⟨_,u,D,G,H,bk,bl,bm,cs202,dt,u,bn.f6.f2.f2.f6.f6.s,((I.trans J.le).trans aj),(w64_rng _),(bO.mono (J.le.trans aj)),hrow204,hm205⟩
    refine wc_exit (qe_then_exit (qe_then_exit ?_))
    cases oi bg
    cases cS _ u
    refine qe_block_eq ?_
    cases oi cP
    exact qd ⟨D,G,H,aH,ai,aI,cs144,T,u,bN,I,bO,hrow145,hm146⟩
   rintro _ eK ⟨aD,aE,aF,aO,aG,aP,cs125,ag,rfl,dx,dy,dz,hrow126,hm127⟩
   refine qe_block (qe_seq (wc_region (mv u (lv (rv_add u u) (av u (wl_nil ?_))))))
   cases oi cN
   exact qd ⟨_,u,aD,aE,aF,aO,aG,aP,cs125,ag,u,dx,((m.trans s.le).trans dy),(w64_rng _),dz,hrow126,hm127⟩
  refine wc_exit (qe_then_exit (qe_then_exit ?_))
  cases oi bc
  cases cw _ u
  refine qe_block_eq ?_
  cases oi cq
  exact qd ⟨ac,ad,ae,aB,af,aC,cs72,S,u,bK.s,m,bL,hrow73,hm74⟩
 rintro _ eL ⟨ax,ay,az,aL,aA,aM,cs53,x,rfl,dA,bP,dB,hrow54,hm55⟩
 refine qs (sr (lv (r_0 u) (nq ?_)))
 obtain⟨bo,dC,dD⟩:=ob cn
 refine wc_cutg (fun E' w'=>∃U V W ak X am cs233 an,E'=[(4,pt l),(5,pt k)]∧SH w K [] w' an [obj l [V3 none 0 0,V3 none 0 0] 43,obj k [V3 U V W,V3 ak X am] 43,rowI (V3 ak X am) cs233 97 3,tail (V3 U V W) 64 3]∧KLe x an∧SliceAt tGDoc an U V W bo.Docs∧RowAt true tGEntry an cs233 bo.Entries∧X=bo.Entries.length) ?_ ?_
 ·refine wc_block ?_
  obtain⟨eM,dE,dF⟩:=ob dC
  refine qw (fun (ao:Int×GSeg) E' w'=>∃ap aq ar Y O aa cs252 ab,E'=[(1,V3 C f i),(4,pt l),(5,pt k),(10,V6 ao.1)]∧SH w K [] w' ab [obj l [V3 none 0 0,V3 none 0 0] 43,obj k [V3 ap aq ar,V3 Y O aa] 43,rowI (V3 Y O aa) cs252 97 3,tail (V3 ap aq ar) 64 3]∧KLe x ab∧rng64 ao.1∧SliceAt tGDoc ab ap aq ar ao.2.Docs∧RowAt true tGEntry ab cs252 ao.2.Entries∧O=ao.2.Entries.length) dE ⟨ax,ay,az,aL,aA,aM,cs53,x,u,dA,kr,d_0,dB,hrow54,hm55⟩ ?_
  rintro ao _ eN eO dG dH ⟨ap,aq,ar,Y,O,aa,cs252,ab,rfl,bQ,aT,eP,bR,hrow253,hm254⟩
  refine wc_seq (sr (mv u (mv u (lv (rv_len underlying40 u (aw.mono ((q.le.trans bP).trans aT))) (lv (rv_lss u u) (nq (wcc dG u (fun dI bp=>?_) (fun dI bp=>?_))))))))
  ·refine wc_skip (qs (wc_block ?_))
   have aU:=bQ.drew
   refine wh1 (fun w'=>Holds ab w') (fun w'=>HasObj k [V3 ap aq ar,V3 Y O aa] w') 10 [(1,8),(1,9),(1,10),(8,9),(8,10),(9,10)] mixed (aU.hasK kr) (fun _=>aU.hasObj (.tail _ (.head _))) (gt (rv_fieldAddr ff43_0 u) (gf (fun _ h=>rh_loadm1 tf40 u u h) (gt (rv_move u) (gt (rv_move u) ?_))))
   obtain⟨bS,dJ,dK⟩:=ob bp
   refine gi underlying40 tf64 (aw.mono ((q.le.trans bP).trans aT)) dJ fun dL dM eQ dN dO=>?_
   obtain⟨bT,bU,bV,bW,bX,bY,rfl,dP,dQ,dR⟩:=dN
   have dS:AtK _ dL dM [V6 bS.Id,V3 bT bU bV,V3 bW bX bY]:=dO
   refine gh (fun _ h=>rh_loadS (cs:=[V6 bS.Id,V3 bT bU bV,V3 bW bX bY]) tf64 u dS u h) (gn ?_)
   obtain⟨bq,dT,dU⟩:=ob dK
   refine lk co143 (ok_spec_l7CopyDoc F aU.enter0 dP dQ dR dT) ?_
   rintro eR eS ⟨br,bs,bu,bv,bz,bA,eT,rfl,R,dV,dW,dX⟩
   have bB:=(aU.c0 R).t6
   refine wl_nil (qh (bB.hasK R.le) (fun _=>bB.hasObj (.tail _ (.tail _ (.tail _ (.head _))))) (gn (lb tGDoc (.agg #[V6 bq.Id,V3 br bs bu,V3 bv bz bA]) [V6 bq.Id,V3 br bs bu,V3 bv bz bA] bq underlying40 tf64 ⟨br,bs,bu,bv,bz,bA,u,dV,dW,dX⟩ bB fun eU eV eW au dY bC=>(wl_nil (qh (bC.hasK (R.le.trans au)) (fun _=>bC.hasObj (.tail _ (.tail _ (.tail _ (.tail _ (.head _)))))) (gn ?_))))))
   obtain⟨eX,dZ,ea⟩:=ob dU
   refine lp underlying40 tf64 (bR.mono (R.le.trans au)) dY dZ bC.f6 fun bD bE bF eY eb aV ec bG=>(wl_nil (qh (bG.hasK ((R.le.trans au).trans aV)) (fun _=>bG.hasObj (.tail _ (.tail _ (.tail _ (.tail _ (.tail _ (.head _))))))) (gt (rv_fieldAddr ff43_0 u) (gn (ls [V3 bD bE bF,V3 Y O aa] (V3 bD bE bF) tf40 bG.f5 fun eZ bZ=>(wl_nil (qh (bZ.hasK ((R.le.trans au).trans aV)) (fun h=>by cases h) (gd' (qe_block (qe_seq (wc_region ?_)))))))))))
   refine mv u (lv (rv_add u u) (av u (wl_nil ?_)))
   cases oi ea
   exact qd ⟨_,u,bD,bE,bF,Y,O,aa,cs252,eb,u,bZ.f1.f6.f2.f6.s,(((aT.trans R.le).trans au).trans aV),(w64_rng _),ec,(RowAt.mono ((R.le.trans au).trans aV) hrow253),hm254⟩
  refine wc_exit (qe_then_exit (qe_then_exit ?_))
  cases oi bp
  cases dH _ u
  refine qe_block_eq ?_
  cases oi dF
  exact qd ⟨ap,aq,ar,Y,O,aa,cs252,ab,u,bQ,aT,bR,hrow253,hm254⟩
 rintro _ fb ⟨U,V,W,ak,X,am,cs233,an,rfl,ca,fc,ed,hrow234,hm235⟩
 refine qr (lv (rv_loadmS (ds:=[V3 U V W,V3 ak X am]) tf43 u m1 ca u u) (lw [V3 U V W,V3 ak X am] tf43 ca fun fd cb=>(nq (wc_ret ?_))))
 cases oi dD
 exact ez results97 tf43 cb m0 ⟨U,V,W,ak,X,am,cs233,an,u,cb.f2.f3.s,ed,hrow234,hm235⟩

theorem ok_spec_l7SameInts {q0:List Int}{q1:List Int}{r:Bool}(hS:SH w K [] w K [])(k:SliceAt tInt K A a b q0)(x:SliceAt tInt K B c d q1)(hm:M.spec_l7SameInts F q0 q1=some r):
  Calls prog 144 #[V3 A a b,V3 B c d] w (R_b w K r):=by
 rw [M.spec_l7SameInts] at hm
 refine ci func144 u ntmps144 (sr (lv (r_f u) (nsr (mv u (lv (rv_len underlying30 u k) (mv u (lv (rv_len underlying30 u x) (lv (rv_neq u u) (nq ?_)))))))))
 refine wc_cond u (fun l=>?_) (fun l=>?_)
 ·have m:=cond_t l hm
  refine sr (lv (r_f u) (nq (rr ?_)))
  cases oi m
  exact ey results144 ⟨K,u,hS⟩
 have m:=cond_f l hm
 refine wc_skip (qs (sr (lv (r_0 u) (nq ?_))))
 obtain⟨I,J,i⟩:=ob m
 refine wc_cutg (IE I w K [] K [] []) ?_ ?_
 ·refine wc_block ?_
  obtain⟨ap,O,y⟩:=ob J
  refine qw (fun (o:Int)=>IW w K [] K [(0,V3 A a b),(1,V3 B c d),(5,V6 o)] [] (rng64 o)) O ⟨K,u,hS,kr,d_0⟩ ?_
  rintro o _ aq ar R C ⟨S,rfl,D,f,au⟩
  refine wc_seq (sr (mv u (mv u (lv (rv_len underlying30 u (k.mono f)) (lv (rv_lss u u) (nq (wcc R u (fun T q=>?_) (fun T q=>?_))))))))
  ·refine wc_skip (qs (wc_block (wc_seq (wc_quiet mixed (by kernel_rfl) D (km u (km u ?_))))))
   obtain⟨U,V,W⟩:=ob q
   refine ki underlying30 tf3 (k.mono f) V fun X Y aw aa ab=>?_
   obtain⟨rfl,ax⟩:=aa
   have ac:AtK _ X Y [V6 U]:=ab
   refine kh (rq_load1 tf3 u (ac 0 _ u)) (km u (km u ?_))
   obtain⟨ad,ae,af⟩:=ob W
   refine ki underlying30 tf3 (x.mono f) ae fun ag ah ay ai aj=>?_
   obtain⟨rfl,az⟩:=ai
   have ak:AtK _ ag ah [V6 ad]:=aj
   refine kh (rq_load1 tf3 u (ak 0 _ u)) (kv (rv_neq u u) (wq_nil ?_))
   rintro aA ⟨G,H,al⟩
   refine qe_seq (wcc af u (fun am s=>?_) (fun am s=>?_))
   ·refine sr (lv (r_f u) (nq (wc_ret (qe_block_ret (qe_then_ret (qe_then_ret ?_))))))
    cases oi s
    cases C _ u
    refine qe_block_ret (qe_then_ret ?_)
    cases oi y
    refine qe_then_ret ?_
    cases oi i
    exact ey results144 ⟨G,u,H⟩
   refine wc_skip (qe_block (qe_seq (wc_region (mv u (lv (rv_add u u) (av u (wl_nil ?_)))))))
   cases oi s
   exact qd ⟨_,u,G,u,H,(f.trans al),(w64_rng _)⟩
  refine wc_exit (qe_then_exit (qe_then_exit ?_))
  cases oi q
  cases C _ u
  refine qe_block_eq ?_
  cases oi y
  exact qe_mid' ⟨_,S,u,u,D,f⟩ trivial
 rintro _ aB ⟨aC,an,rfl,rfl,ao,aD⟩
 have i:=elim_l i
 refine qr (lv (r_t u) (nq (wc_ret ?_)))
 cases oi i
 exact ey results144 ⟨an,u,ao⟩

theorem ok_spec_l7SameEntry {q0:GEntry}{q1:GEntry}{r:Bool}(hS:SH w K [] w K [])(bF:q0.Field.length≤maxLen)(bG:q0.Term.length≤maxLen)(x:SliceAt tGPost K A a b q0.Posts)(bH:q1.Field.length≤maxLen)(bI:q1.Term.length≤maxLen)(G:SliceAt tGPost K B c d q1.Posts)(hm:M.spec_l7SameEntry F q0 q1=some r):
  Calls prog 98 #[.agg #[sv q0.Field,sv q0.Term,V3 A a b],.agg #[sv q1.Field,sv q1.Term,V3 B c d]] w (R_b w K r):=by
 rw [M.spec_l7SameEntry] at hm
 refine ci func98 u ntmps98 (sr (bx u hS fun m bJ ac=>?_))
 have ad:SH _ _ _ _ _ [obj m [sv q0.Field,sv q0.Term,V3 A a b] 97]:=ac
 refine bx u ad fun o bK ae=>?_
 have k:SH _ _ _ _ _ [obj o [sv q1.Field,sv q1.Term,V3 B c d] 97,_]:=ae
 refine lv (r_f u) (ns (wc_seq ?_))
 obtain⟨af,ag,ah⟩:=ob hm
 refine wc_cutg (IV w K [] K [(2,pt m),(3,pt o),(26,.bool af)] [obj m [sv q0.Field,sv q0.Term,V3 A a b] 97,obj o [sv q1.Field,sv q1.Term,V3 B c d] 97]) ?_ ?_
 ·refine wc_region (fl ff97_0 u tf9 m1 k u (fl ff97_0 u tf9 m0 k u (lv (rv_sneq u u) (mv u (bt ag (fun l H=>?_) (fun l H=>?_))))))
  ·iterate 5 refine lu l ?_
   refine lv (p_t u l u) (mv u ?_)
   iterate 7 refine lu u ?_
   refine lv (p_t u u u) (wl_nil ?_)
   cases oi H
   exact qd ⟨K,u,k.f1,kr⟩
  refine lg l (rv_fieldAddr ff97_1 u) (lg l (rv_loadm1 tf9 u m1 k u) (lg l (rv_fieldAddr ff97_1 u) (lg l (rv_loadm1 tf9 u m0 k u) (lg l (rv_sneq u u) (lv (rv_pick_f u l u) (mv u (bt H (fun i I=>?_) (fun i I=>?_))))))))
  ·iterate 7 refine lu i ?_
   refine lv (p_t u i u) (wl_nil ?_)
   cases oi I
   exact qd ⟨K,u,k.f1,kr⟩
  refine lg i (rv_fieldAddr ff97_2 u) (lg i (rv_loadm1 tf95 u m1 k u) (lg i (rv_len underlying95 u x) (lg i (rv_fieldAddr ff97_2 u) (lg i (rv_loadm1 tf95 u m0 k u) (lg i (rv_len underlying95 u G) (lg i (rv_neq u u) (lv (rv_pick_f u i u) (wl_nil ?_))))))))
  cases oi I
  exact qd ⟨K,u,k.f1,kr⟩
 rintro _ bL ⟨y,rfl,U,s⟩
 refine qe_seq (wcc ah u (fun ai J=>?_) (fun ai J=>?_))
 ·refine sr (lv (r_f u) (nq (rr ?_)))
  cases oi J
  exact ey results98 ⟨y,u,U.s⟩
 refine wc_skip (qs (sr (lv (r_0 u) (nq ?_))))
 obtain⟨aj,ak,C⟩:=ob J
 refine wc_cutg (IE aj w K [] y [] []) ?_ ?_
 ·refine wc_block ?_
  obtain⟨bM,al,V⟩:=ob ak
  refine qw (fun (D:Int)=>IW w K [] y [(2,pt m),(3,pt o),(5,V6 D)] [obj m [sv q0.Field,sv q0.Term,V3 A a b] 97,obj o [sv q1.Field,sv q1.Term,V3 B c d] 97] (rng64 D)) al ⟨y,u,U,kr,d_0⟩ ?_
  rintro D _ bN bO am W ⟨X,rfl,O,q,bP⟩
  refine wc_seq (sr (mv u (fl ff97_2 u tf95 m0 O u (lv (rv_len underlying95 u (x.mono (s.trans q))) (lv (rv_lss u u) (nq (wcc am u (fun an R=>?_) (fun an R=>?_))))))))
  ·refine wc_skip (qs (wc_block (wc_seq ?_)))
   obtain⟨ao,ap,aq⟩:=ob R
   refine wc_cutg (IV w K [] X [(2,pt m),(3,pt o),(5,V6 D),(62,.bool ao)] [obj m [sv q0.Field,sv q0.Term,V3 A a b] 97,obj o [sv q1.Field,sv q1.Term,V3 B c d] 97]) ?_ ?_
   ·refine wc_quiet mixed (by kernel_rfl) O (kv (rv_fieldAddr ff97_2 u) (kh (rq_loadm1 tf95 u m0 u) (km u ?_)))
    obtain⟨ar,au,aw⟩:=ob ap
    refine ki underlying95 tf153 (x.mono (s.trans q)) au fun ax ay bQ az aA=>?_
    obtain⟨aB,aC,aD,rfl,bR,bS⟩:=az
    have aE:AtK _ ax ay [V6 ar.Doc,V3 aB aC aD]:=aA
    refine kv (rv_fieldAddr ff153_0 u) (kh (rq_load1 tf3 u (aE 0 _ u)) (kv (rv_fieldAddr ff97_2 u) (kh (rq_loadm1 tf95 u m1 u) (km u ?_))))
    obtain⟨aF,aG,aH⟩:=ob aw
    refine ki underlying95 tf153 (G.mono (s.trans q)) aG fun aI aJ bT aK aL=>?_
    obtain⟨aM,aN,aO,rfl,bU,bV⟩:=aK
    have aP:AtK _ aI aJ [V6 aF.Doc,V3 aM aN aO]:=aL
    refine kv (rv_fieldAddr ff153_0 u) (kh (rq_load1 tf3 u (aP 0 _ u)) (kv (rv_neq u u) (km u (bt aH (fun f S=>?_) (fun f S=>?_)))))
    ·iterate 14 refine kn f ?_
     refine kv (p_t u f u) (wq_nil ?_)
     rintro bW ⟨aQ,aR,aS⟩
     cases oi S
     exact qd ⟨aQ,u,aR,aS⟩
    refine kg f (rv_fieldAddr ff97_2 u) (kgh f (rq_loadm1 tf95 u m0 u) (kg f (rv_move u) ?_))
    obtain⟨aT,aU,aV⟩:=ob S
    refine wq_indexAddr (t:=tGPost) (wg u u f) u underlying95 tf153 u u (x.mono (s.trans q)) aU fun aW aX bX aY aZ=>?_
    obtain⟨ba,bb,bc,rfl,bY,bd⟩:=aY
    have be:AtK _ aW aX [V6 aT.Doc,V3 ba bb bc]:=aZ
    refine kg f (rv_fieldAddr ff153_1 u) (kgh f (rq_load1 tf30 u (be 1 _ u)) (kg f (rv_fieldAddr ff97_2 u) (kgh f (rq_loadm1 tf95 u m1 u) (kg f (rv_move u) ?_))))
    obtain⟨bf,bg,bh⟩:=ob aV
    refine wq_indexAddr (t:=tGPost) (wg u u f) u underlying95 tf153 u u (G.mono (s.trans q)) bg fun bi bj bZ bk bl=>?_
    obtain⟨bm,bn,bo,rfl,ca,bp⟩:=bk
    have bq:AtK _ bi bj [V6 bf.Doc,V3 bm bn bo]:=bl
    refine kg f (rv_fieldAddr ff153_1 u) (kgh f (rq_load1 tf30 u (bq 1 _ u)) ?_)
    obtain⟨cb,br,bs⟩:=ob bh
    refine kcg f co144 (fun _ _ bu Y=>(ok_spec_l7SameInts F) bu.enter0 (bd.mono Y) (bp.mono Y) br) (kg f (rv_not u) (kv (rv_pick_f u f u) (wq_nil ?_)))
    rintro cc ⟨bv,bz,bA⟩
    cases oi bs
    exact qd ⟨bv,u,bz,bA⟩
   rintro _ cd ⟨aa,rfl,ab,bB⟩
   refine qe_seq (wcc aq u (fun bC T=>?_) (fun bC T=>?_))
   ·refine sr (lv (r_f u) (nq (wc_ret (qe_block_ret (qe_then_ret (qe_then_ret ?_))))))
    cases oi T
    cases W _ u
    refine qe_block_ret (qe_then_ret ?_)
    cases oi V
    refine qe_then_ret ?_
    cases oi C
    exact ey results98 ⟨aa,u,ab.s⟩
   refine wc_skip (qe_block (qe_seq (wc_region (mv u (lv (rv_add u u) (av u (wl_nil ?_)))))))
   cases oi T
   exact qd ⟨_,u,aa,u,ab,(q.trans bB),(w64_rng _)⟩
  refine wc_exit (qe_then_exit (qe_then_exit ?_))
  cases oi R
  cases W _ u
  refine qe_block_eq ?_
  cases oi V
  exact qe_mid' ⟨_,X,u,u,O.s,q⟩ trivial
 rintro _ ce ⟨cf,bD,rfl,rfl,bE,cg⟩
 have C:=elim_l C
 refine qr (lv (r_t u) (nq (wc_ret ?_)))
 cases oi C
 exact ey results98 ⟨bD,u,bE⟩

theorem ok_spec_l7Ok {q0:GConf}{q1:GSeg}{r:Bool}(hS:SH w K [] w K [])(ad:SliceAt tStr K A a b q0.Stops)(ae:SliceAt tGSyn K B c d q0.Syns)(af:SliceAt tGDoc K C f i q1.Docs)(ag:SliceAt tGEntry K D k l q1.Entries)(hm:M.spec_l7Ok F q0 q1=some r):
  Calls prog 50 #[.agg #[V3 A a b,V3 B c d],.agg #[V3 C f i,V3 D k l]] w (R_b w K r):=by
 rw [M.spec_l7Ok] at hm
 refine ci func50 u ntmps50 (sr (bx u hS fun O bO aA=>?_))
 have aB:SH _ _ _ _ _ [obj O [V3 A a b,V3 B c d] 38]:=aA
 refine bx u aB fun o bP aC=>?_
 have R:SH _ _ _ _ _ [obj o [V3 C f i,V3 D k l] 43,_]:=aC
 refine lv (r_f u) (ns (wc_seq ?_))
 obtain⟨aD,aE,aF⟩:=ob hm
 refine wc_cutg (IV w K [] K [(2,pt O),(3,pt o),(15,.bool aD)] [obj O [V3 A a b,V3 B c d] 38,obj o [V3 C f i,V3 D k l] 43]) ?_ ?_
 ·refine wc_region (lv (rv_loadmS (ds:=[V3 A a b,V3 B c d]) tf38 u m1 R u u) ?_)
  obtain⟨bQ,aG,aH⟩:=ob aE
  refine lk co66 (ok_spec_l2Ok F R.enter0 ad ae aG) ?_
  rintro bR bS ⟨aI,rfl,y⟩
  have G:=(R.c0 y).t2
  refine lv (rv_not u) (mv u (bt aH (fun m S=>?_) (fun m S=>?_)))
  ·refine lu m (lu m (lu m (lu m (lv (p_t u m u) (wl_nil ?_)))))
   cases oi S
   exact qd ⟨aI,u,G.f1,y.le⟩
  refine lg m (rv_fieldAddr ff43_0 u) (lg m (rv_loadm1 tf40 u m0 G u) ?_)
  obtain⟨bT,aJ,aK⟩:=ob S
  refine wl_call (wg u u m) u (rt_call (vs:=[V3 C f i]) co67 u) (ok_spec_l6Docs F G.enter0 (af.mono y.le) aJ) ?_
  rintro bU bV ⟨aL,rfl,ah⟩
  refine⟨_,u,?_⟩
  have aM:=(G.c0 ah).t2
  refine lg m (rv_not u) (lv (rv_pick_f u m u) (wl_nil ?_))
  cases oi aK
  exact qd ⟨aL,u,aM.f1,(y.le.trans ah.le)⟩
 rintro _ bW ⟨aN,rfl,q,s⟩
 refine qe_seq (wcc aF u (fun aO T=>?_) (fun aO T=>?_))
 ·refine sr (lv (r_f u) (nq (rr ?_)))
  cases oi T
  exact ey results50 ⟨aN,u,q.s⟩
 refine wc_skip (qr (lv (rv_loadmS (ds:=[V3 A a b,V3 B c d]) tf38 u m0 q u u) (fl ff43_0 u tf40 m1 q u ?_)))
 obtain⟨bX,aP,aQ⟩:=ob T
 refine lk co97 (ok_spec_l7Of F q.enter0 (ad.mono s) (ae.mono s) (af.mono s) aP) ?_
 rintro bY bZ ⟨ai,aj,ak,am,an,ao,cs68,ca,rfl,U,cb,hrow69,hm70⟩
 have aR:=(q.c0 U).t4
 obtain⟨H,ap,V,aS⟩:=SH.freezeI aR.f1 hrow69 hm70
 refine al tf43 aS fun W cc aT=>?_
 have aU:SH _ _ _ _ _ [obj W [V3 none 0 0,V3 none 0 0] 43,_,_,_,_]:=aT
 refine lw [V3 ai aj ak,V3 am an ao] tf43 aU fun cd I=>(nsr (fl ff43_1 u tf41 m0 I u (lv (rv_len underlying41 u V) (fl ff43_1 u tf41 m4 I u (lv (rv_len underlying41 u (ag.mono ((s.trans U.le).trans ap))) (lv (rv_neq u u) (nq (wcc aQ u (fun aV X=>?_) (fun aV X=>?_)))))))))
 ·refine sr (lv (r_f u) (nq (rr ?_)))
  cases oi X
  exact ey results50 ⟨H,u,I.s⟩
 refine wc_skip (qs (sr (lv (r_0 u) (nq ?_))))
 obtain⟨aW,aX,J⟩:=ob X
 refine wc_cutg (IE aW w K [] H [] []) ?_ ?_
 ·refine wc_block ?_
  obtain⟨ce,aY,aq⟩:=ob aX
  have aZ:=I.f4.sb (sk (sk (sd (sd (sd sz)))))
  refine qw (fun (Y:Int)=>IW w K [] H [(3,pt o),(5,pt W),(6,V6 Y)] [obj o [V3 C f i,V3 D k l] 43,obj W [V3 ai aj ak,V3 am an ao] 43] (rng64 Y)) aY ⟨H,u,aZ,kr,d_0⟩ ?_
  rintro Y _ cf cg ba ar ⟨bb,rfl,aa,x,ch⟩
  refine wc_seq (sr (mv u (fl ff43_1 u tf41 m1 aa u (lv (rv_len underlying41 u (V.mono x)) (lv (rv_lss u u) (nq (wcc ba u (fun bc ab=>?_) (fun bc ab=>?_))))))))
  ·refine wc_skip (qs (wc_block (wc_seq (wc_quiet mixed (by kernel_rfl) aa (kv (rv_fieldAddr ff43_1 u) (kh (rq_loadm1 tf41 u m1 u) (km u ?_)))))))
   obtain⟨au,bd,be⟩:=ob ab
   refine ki underlying41 tf97 (V.mono x) bd fun bf bg cj bh bi=>?_
   obtain⟨bj,bk,bl,rfl,bm,bn,bo⟩:=bh
   have bp:AtK _ bf bg [sv au.Field,sv au.Term,V3 bj bk bl]:=bi
   refine kh (rq_loadS tf97 u bp u) (kv (rv_fieldAddr ff43_1 u) (kh (rq_loadm1 tf41 u m0 u) (km u ?_)))
   obtain⟨aw,bq,br⟩:=ob be
   refine ki underlying41 tf97 (SliceAt.mono (((s.trans U.le).trans ap).trans x) ag) bq fun bs bu ck bv bz=>?_
   obtain⟨bA,bB,bC,rfl,bD,bE,bF⟩:=bv
   have bG:AtK _ bs bu [sv aw.Field,sv aw.Term,V3 bA bB bC]:=bz
   refine kh (rq_loadS tf97 u bG u) ?_
   obtain⟨cl,bH,bI⟩:=ob br
   refine kc co98 (fun _ _ bJ ax=>(ok_spec_l7SameEntry F) bJ.enter0 bm bn (bo.mono ax) bD bE (bF.mono ax) bH) (kv (rv_not u) (wq_nil ?_))
   rintro cm ⟨ay,az,bK⟩
   refine qe_seq (wcc bI u (fun bL ac=>?_) (fun bL ac=>?_))
   ·refine sr (lv (r_f u) (nq (wc_ret (qe_block_ret (qe_then_ret (qe_then_ret ?_))))))
    cases oi ac
    cases ar _ u
    refine qe_block_ret (qe_then_ret ?_)
    cases oi aq
    refine qe_then_ret ?_
    cases oi J
    exact ey results50 ⟨ay,u,az.s⟩
   refine wc_skip (qe_block (qe_seq (wc_region (mv u (lv (rv_add u u) (av u (wl_nil ?_)))))))
   cases oi ac
   exact qd ⟨_,u,ay,u,az,(x.trans bK),(w64_rng _)⟩
  refine wc_exit (qe_then_exit (qe_then_exit ?_))
  cases oi ab
  cases ar _ u
  refine qe_block_eq ?_
  cases oi aq
  exact qe_mid' ⟨_,bb,u,u,aa.s,x⟩ trivial
 rintro _ cn ⟨cp,bM,rfl,rfl,bN,cq⟩
 have J:=elim_l J
 refine qr (lv (r_t u) (nq (wc_ret ?_)))
 cases oi J
 exact ey results50 ⟨bM,u,bN⟩

theorem ok_spec_l3Up {q0:List Int}{r:Bool}(hS:SH w K [] w K [])(i:SliceAt tInt K A a b q0)(hm:M.spec_l3Up F q0=some r):
  Calls prog 64 #[V3 A a b] w (R_b w K r):=by
 rw [M.spec_l3Up] at hm
 refine ci func64 u ntmps64 (sr (lv (r_f u) (nsr (lv (r_0 u) (nq ?_)))))
 obtain⟨H,I,k⟩:=ob hm
 refine wc_cutg (IE H w K [] K [(0,V3 A a b)] []) ?_ ?_
 ·refine wc_block ?_
  obtain⟨aP,J,x⟩:=ob I
  refine qw (fun (l:Int)=>IW w K [] K [(0,V3 A a b),(3,V6 l)] [] (rng64 l)) J ⟨K,u,hS,kr,d_0⟩ ?_
  rintro l _ aQ aR O y ⟨B,rfl,C,f,aS⟩
  refine wc_seq (sr (mv u (mv u (lv (rv_len underlying30 u (i.mono f)) (lv (rv_lss u u) (nq (wcc O u (fun R m=>?_) (fun R m=>?_))))))))
  ·refine wc_skip (qs (wc_block (wc_seq ?_)))
   obtain⟨S,T,U⟩:=ob m
   refine wc_cutg (IV w K [] B [(0,V3 A a b),(3,V6 l),(31,.bool S)] []) ?_ ?_
   ·refine wc_quiet mixed (by kernel_rfl) C (km u (km u ?_))
    obtain⟨V,W,X⟩:=ob T
    refine ki underlying30 tf3 (i.mono f) W fun Y aa aT ab ac=>?_
    obtain⟨rfl,ad⟩:=ab
    have ae:AtK _ Y aa [V6 V]:=ac
    refine kh (rq_load1 tf3 u (ae 0 _ u)) ?_
    obtain⟨aU,af,ag⟩:=ob X
    refine kc co107 (fun _ _ ah aV=>(ok_spec_l1In F) ah.enter0 ad d_0 (by decide :rng64 999999999) af) (kv (rv_not u) (km u (bt ag (fun d o=>?_) (fun d o=>?_))))
    ·refine kn d (kn d (kn d ?_))
     iterate 10 refine ku ?_
     refine kn d (kv (p_t u d u) (wq_nil ?_))
     rintro aW ⟨ai,aj,ak⟩
     cases oi o
     exact qd ⟨ai,u,aj,ak⟩
    refine kg d (rv_move u) (kg d (rv_gtr u u) (kg d (rv_move u) (bt o (fun c q=>?_) (fun c q=>?_))))
    ·refine kg c (rv_move u) (kg c (rv_move u) ?_)
     obtain⟨al,am,an⟩:=ob q
     refine wq_indexAddr (t:=tInt) (wg u u c) u underlying30 tf3 u u (i.mono f) am fun ao ap aX aq ar=>?_
     obtain⟨rfl,aY⟩:=aq
     have au:AtK _ ao ap [V6 al]:=ar
     refine kgh c (rq_load1 tf3 u (au 0 _ u)) (kg c (rv_move u) (kg c (rv_move u) (kg c (rv_sub u u) ?_)))
     obtain⟨aw,ax,ay⟩:=ob an
     refine wq_indexAddr (t:=tInt) (wg u u c) u underlying30 tf3 u u (i.mono f) ax fun az aA aZ aB aC=>?_
     obtain⟨rfl,ba⟩:=aB
     have aD:AtK _ az aA [V6 aw]:=aC
     refine kgh c (rq_load1 tf3 u (aD 0 _ u)) (kg c (rv_leq u u) (kg d (rv_pick_t u c u) (kv (rv_pick_f u d u) (wq_nil ?_))))
     rintro bb ⟨aE,aF,aG⟩
     cases oi ay
     exact qd ⟨aE,u,aF,aG⟩
    iterate 10 refine kn c ?_
    refine kg d (p_f u c u) (kv (rv_pick_f u d u) (wq_nil ?_))
    rintro bc ⟨aH,aI,aJ⟩
    cases oi q
    exact qd ⟨aH,u,aI,aJ⟩
   rintro _ bd ⟨D,rfl,G,aK⟩
   refine qe_seq (wcc U u (fun aL s=>?_) (fun aL s=>?_))
   ·refine sr (lv (r_f u) (nq (wc_ret (qe_block_ret (qe_then_ret (qe_then_ret ?_))))))
    cases oi s
    cases y _ u
    refine qe_block_ret (qe_then_ret ?_)
    cases oi x
    refine qe_then_ret ?_
    cases oi k
    exact ey results64 ⟨D,u,G⟩
   refine wc_skip (qe_block (qe_seq (wc_region (mv u (lv (rv_add u u) (av u (wl_nil ?_)))))))
   cases oi s
   exact qd ⟨_,u,D,u,G,(f.trans aK),(w64_rng _)⟩
  refine wc_exit (qe_then_exit (qe_then_exit ?_))
  cases oi m
  cases y _ u
  refine qe_block_eq ?_
  cases oi x
  exact qd ⟨_,B,u,u,C,f⟩
 rintro _ be ⟨s8,K9,rfl,rfl,aN,aO⟩
 have k:=elim_l k
 refine qr (mv u (lv (rv_len underlying30 u (i.mono aO)) (lv (rv_leq u u) (av u (nq (wc_ret ?_))))))
 cases oi k
 exact ey results64 ⟨K9,u,aN⟩

theorem ok_spec_l12Doc {q0:GSeg}{q1:Int}{r:GDoc}(hS:SH w K [] w K [])(I:SliceAt tGDoc K A a b q0.Docs)(ba:SliceAt tGEntry K B c d q0.Entries)(bb:rng64 q1)(hm:M.spec_l12Doc F q0 q1=some r):
  Calls prog 65 #[.agg #[V3 A a b,V3 B c d],V6 q1] w fun e w'=>∃a_2 n_3 c_4 a_6 n_7 c_8 K',e= .returned (.agg #[V6 r.Id,V3 a_2 n_3 c_4,V3 a_6 n_7 c_8])∧SH w K [] w' K' []∧rng64 r.Id∧SliceAt tGField K' a_2 n_3 c_4 r.Fields∧SliceAt tGAttr K' a_6 n_7 c_8 r.Nums:=by
 rw [M.spec_l12Doc] at hm
 refine ci func65 u ntmps65 (sr (bx u hS fun J bc ao=>?_))
 have ap:SH _ _ _ _ _ [obj J [V3 A a b,V3 B c d] 43]:=ao
 refine al tf64 ap fun o bd aq=>?_
 have ar:SH _ _ _ _ _ [obj o [V6 0,V3 none 0 0,V3 none 0 0] 64,_]:=aq
 refine nsr (lv (r_0 u) (nq ?_))
 obtain⟨au,aw,H⟩:=ob hm
 refine wc_cutg (fun E' w'=>∃l O R S T U V m,au= .inl l∧E'=[(4,pt o)]∧SH w K [] w' m [obj o [V6 l.Id,V3 O R S,V3 T U V] 64]∧KLe K m∧rng64 l.Id∧SliceAt tGField m O R S l.Fields∧SliceAt tGAttr m T U V l.Nums) ?_ ?_
 ·refine wc_block ?_
  obtain⟨be,ax,af⟩:=ob aw
  refine qw (fun (k:Int×GDoc) E' w'=>∃q s x y C D f,E'=[(1,V6 q1),(2,pt J),(4,pt o),(5,V6 k.1)]∧SH w K [] w' f [obj J [V3 A a b,V3 B c d] 43,obj o [V6 k.2.Id,V3 q s x,V3 y C D] 64]∧KLe K f∧rng64 k.1∧rng64 k.2.Id∧SliceAt tGField f q s x k.2.Fields∧SliceAt tGAttr f y C D k.2.Nums) ax ⟨none,0,0,none,0,0,K,u,ar.f1,kr,d_0,d_0,(SliceAt.nil _ _),(SliceAt.nil _ _)⟩ ?_
  rintro k _ bf bg ay ag ⟨q,s,x,y,C,D,f,rfl,i,G,bh,ah,ai,aj⟩
  refine wc_seq (sr (mv u (fl ff43_0 u tf40 m0 i u (lv (rv_len underlying40 u (I.mono G)) (lv (rv_lss u u) (nq (wcc ay u (fun az W=>?_) (fun az W=>?_))))))))
  ·refine wc_skip (qs (wc_block (sr (fl ff43_0 u tf40 m0 i u (mv u ?_)))))
   obtain⟨aA,aB,aC⟩:=ob W
   refine li underlying40 tf64 (I.mono G) aB fun aD aE bi aF aG=>?_
   obtain⟨aH,aI,aJ,aK,aL,aM,rfl,bj,bk,bl⟩:=aF
   have aN:AtK _ aD aE [V6 aA.Id,V3 aH aI aJ,V3 aK aL aM]:=aG
   refine fa ff64_0 u (lv (rv_load1 tf3 u i (aN 0 _ u)) (mv u (lv (rv_eql u u) (nq (wcc aC u (fun aO X=>?_) (fun aO X=>?_))))))
   ·refine sr (fl ff43_0 u tf40 m0 i u (mv u ?_))
    obtain⟨ak,aP,aQ⟩:=ob X
    refine li underlying40 tf64 (I.mono G) aP fun aR aS bm aT aU=>?_
    obtain⟨Y,aa,ab,ac,ad,ae,rfl,aV,aW,aX⟩:=aT
    have aY:AtK _ aR aS [V6 ak.Id,V3 Y aa ab,V3 ac ad ae]:=aU
    refine lv (rv_loadS tf64 u i aY u) (lw [V6 ak.Id,V3 Y aa ab,V3 ac ad ae] tf64 i.f1 fun bn am=>(nq (wc_ret (qe_block_ret (qe_then_ret (qe_then_ret ?_))))))
    cases oi aQ
    cases ag _ u
    refine qe_block_ret (qe_then_ret ?_)
    cases oi af
    refine qe_then_ret ?_
    cases oi H
    exact ez results65 tf64 am m0 ⟨Y,aa,ab,ac,ad,ae,f,u,am.s,aV,aW,aX⟩
   refine wc_skip (qe_block (qe_seq (wc_region (mv u (lv (rv_add u u) (av u (wl_nil ?_)))))))
   cases oi X
   exact qd ⟨_,u,q,s,x,y,C,D,f,u,i,G,(w64_rng _),ah,ai,aj⟩
  refine wc_exit (qe_then_exit (qe_then_exit ?_))
  cases oi W
  cases ag _ u
  refine qe_block_eq ?_
  cases oi af
  exact qd ⟨_,q,s,x,y,C,D,f,u,u,i.s,G,ah,ai,aj⟩
 rintro _ bo ⟨l,O,R,S,T,U,V,m,rfl,rfl,aZ,bp,bq,br,bs⟩
 have H:=elim_l H
 refine qr (lv (rv_build (cs:=#[V6 0,V3 none 0 0,V3 none 0 0]) sp64 tf64 u (by kernel_rfl)) (lw [V6 0,V3 none 0 0,V3 none 0 0] tf64 aZ fun bu an=>(nq (wc_ret ?_))))
 cases oi H
 exact ez results65 tf64 an m0 ⟨none,0,0,none,0,0,m,u,an.s,d_0,(SliceAt.nil _ _),(SliceAt.nil _ _)⟩

theorem ok_spec_l8Has {q0:List Int}{q1:Int}{r:Bool}(hS:SH w K [] w K [])(o:SliceAt tInt K A a b q0)(X:rng64 q1)(hm:M.spec_l8Has F q0 q1=some r):
  Calls prog 161 #[V3 A a b,V6 q1] w (R_b w K r):=by
 rw [M.spec_l8Has] at hm
 refine ci func161 u ntmps161 (sr (lv (r_f u) (nsr (lv (r_0 u) (nq ?_)))))
 obtain⟨x,y,c⟩:=ob hm
 refine wc_cutg (IE x w K [] K [] []) ?_ ?_
 ·refine wc_block ?_
  obtain⟨Y,B,q⟩:=ob y
  refine qw (fun (i:Int)=>IW w K [] K [(0,V3 A a b),(1,V6 q1),(5,V6 i)] [] (rng64 i)) B ⟨K,u,hS,kr,d_0⟩ ?_
  rintro i _ aa ab C s ⟨k,rfl,d,f,ac⟩
  refine wc_seq (sr (mv u (mv u (lv (rv_len underlying30 u (o.mono f)) (lv (rv_lss u u) (nq (wcc C u (fun D l=>?_) (fun D l=>?_))))))))
  ·refine wc_skip (qs (wc_block (sr (mv u (mv u ?_)))))
   obtain⟨G,H,I⟩:=ob l
   refine li underlying30 tf3 (o.mono f) H fun J O ad R S=>?_
   obtain⟨rfl,ae⟩:=R
   have T:AtK _ J O [V6 G]:=S
   refine lv (rv_load1 tf3 u d (T 0 _ u)) (mv u (lv (rv_eql u u) (nq (wcc I u (fun U m=>?_) (fun U m=>?_)))))
   ·refine sr (lv (r_t u) (nq (wc_ret (qe_block_ret (qe_then_ret (qe_then_ret ?_))))))
    cases oi m
    cases s _ u
    refine qe_block_ret (qe_then_ret ?_)
    cases oi q
    refine qe_then_ret ?_
    cases oi c
    exact ey results161 ⟨k,u,d⟩
   refine wc_skip (qe_block (qe_seq (wc_region (mv u (lv (rv_add u u) (av u (wl_nil ?_)))))))
   cases oi m
   exact qd ⟨_,u,k,u,d,f,(w64_rng _)⟩
  refine wc_exit (qe_then_exit (qe_then_exit ?_))
  cases oi l
  cases s _ u
  refine qe_block_eq ?_
  cases oi q
  exact qe_mid' ⟨_,k,u,u,d,f⟩ trivial
 rintro _ af ⟨s9,V,rfl,rfl,W,ah⟩
 have c:=elim_l c
 refine qr (lv (r_f u) (nq (wc_ret ?_)))
 cases oi c
 exact ey results161 ⟨V,u,W⟩

theorem ok_spec_l18Dead {q0:GLive}{q1:Int}{r:Bool}(hS:SH w K [] w K [])(H:SliceAt tGDoc K A a b q0.Seg.Docs)(I:SliceAt tGEntry K B c d q0.Seg.Entries)(l:SliceAt tInt K C f i q0.Dead)(m:rng64 q1)(hm:M.spec_l18Dead F q0 q1=some r):
  Calls prog 116 #[.agg #[V3 A a b,V3 B c d,V3 C f i],V6 q1] w (R_b w K r):=by
 rw [M.spec_l18Dead] at hm
 refine ci func116 u ntmps116 (sr (bx u hS fun o J q=>?_))
 have k:SH _ _ _ _ _ [obj o [V3 A a b,V3 B c d,V3 C f i] 45]:=q
 refine lv (r_f u) (nr (fl ff45_1 u tf30 m0 k u (mv u ?_)))
 obtain⟨O,s,x⟩:=ob hm
 refine lk co161 (ok_spec_l8Has F k.enter0 l m s) ?_
 rintro R S ⟨y,rfl,D⟩
 have G:=(k.c0 D).t1
 refine av u (nq (wc_ret ?_))
 cases oi x
 exact ey results116 ⟨y,u,G.s⟩
end Go.Proofs.YtpdfkjjmcnhakaaGreatDoor
