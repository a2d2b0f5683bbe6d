/-
 Walks of the functions. Printed by gen.py.
-/
import Derived.Test.YtepcfgnicnibnaaWalkA0
set_option linter.unusedVariables false
set_option linter.unusedSectionVars false
set_option maxRecDepth 100000
namespace Go.Proofs.Ytepcfgnicnibnaa
set_option maxHeartbeats 4000000
open Go Go.Fk Go.RowKit Try
variable (F:Nat){w:World}{K:KMap}{Z:List Nat}{g1 g2 g3:Nat}{A B C D G H I J O R S T:Option Addr}{a b c d f i k l m n o p q s v x y aa ab ac ad ae af ag:Nat}
variable [dr:Dr]

theorem ok_cmp_Or_int {q0:List Int}{r:Int}(hS:SH w K [] w K [])(k:SliceAt tInt K A a b q0)(hm:M.cmp_Or_int F q0=some r):
  Calls prog 101 #[V3 A a b] w (R_i w K r):=by
 rw [M.cmp_Or_int] at hm
 refine ci func101 u ntmps101 (sr (lv (r_0 u) (nr (lv (r_0 u) (nsr (mv u (lv (rv_len underlying57 u k) (lv (r_m u) (nq ?_)))))))))
 obtain⟨s,x,d⟩:=ob hm
 refine wc_cutg (IE s w K [] K [(3,V6 0)] []) ?_ ?_
 ·refine wc_block ?_
  obtain⟨aa,y,m⟩:=ob x
  refine qf (fun (o:Nat) (q:Unit)=>IV w K [] K [(3,V6 0),(6,V3 A a b),(7,V6 (q0.length:Int)),(8,V6 ((o:Nat):Int))] []) y ⟨K,u,hS,kr⟩ ?_ ?_
  ·rintro o q _ B ab hi23 C D ⟨f,rfl,c,i⟩
   refine sr (lv (rv_lss u u) (ns (wc_cond_t u (decide_eq_true (by omega)) (wc_skip (qe_seq (wc_seq (wc_block (sr ?_))))))))
   obtain⟨G,H,I⟩:=ob C
   refine li underlying57 tf3 (k.mono i) H fun J O ac R S=>?_
   obtain⟨rfl,T⟩:=R
   have U:AtK _ J O [V6 G]:=S
   refine lv (rv_load1 tf3 u c (U 0 _ u)) (av u (nr (mv u (mv u (lv (rv_neq u u) (nq (wcc I u (fun V l=>?_) (fun V l=>?_))))))))
   ·refine sr (mv u (av u (nq (wc_ret (qe_block_ret (qe_then_ret (qe_then_ret ?_)))))))
    cases oi l
    cases D _ u
    refine qe_block_ret (qe_then_ret ?_)
    cases oi m
    refine qe_then_ret ?_
    cases oi d
    exact ey results101 ⟨f,u,c,T⟩
   refine wc_skip (qe_block (qg (lv (rv_add_to u u (w64_succ hi23 (SliceAt.max k))) (mv u (wl_nil ?_)))))
   cases oi l
   exact qd ⟨_,u,f,u,c,i⟩
  rintro q _ B W ⟨f,rfl,c,i⟩
  subst W
  refine sr (lv (rv_lss u u) (ns (wc_cond_f u (decide_eq_false (by omega)) (wc_exit (qe_then_exit (qe_then_exit (qe_block_eq ?_)))))))
  cases oi m
  exact qd ⟨_,f,u,u,c,i⟩
 rintro _ ad ⟨s8,X,rfl,rfl,Y,af⟩
 have d:=elim_l d
 refine qr (mv u (av u (nq (wc_ret ?_))))
 cases oi d
 exact ey results101 ⟨X,u,Y,d_0⟩

theorem ok_cmp_isNaN_int {q0:Int}{r:Bool}(hS:SH w K [] w K [])(a:rng64 q0)(hm:M.cmp_isNaN_int F q0=some r):
  Calls prog 120 #[V6 q0] w (R_b w K r):=by
 rw [M.cmp_isNaN_int] at hm
 refine ci func120 u ntmps120 (sr (lv (r_f u) (nr (mv u (mv u (lv (rv_neq u u) (av u (nq (wc_ret ?_)))))))))
 cases oi hm
 exact ey results120 ⟨K,u,hS⟩

theorem ok_cmp_Compare_int {q0:Int}{q1:Int}{r:Int}(hS:SH w K [] w K [])(m:rng64 q0)(o:rng64 q1)(hm:M.cmp_Compare_int F q0 q1=some r):
  Calls prog 102 #[V6 q0,V6 q1] w (R_i w K r):=by
 rw [M.cmp_Compare_int] at hm
 refine ci func102 u ntmps102 (sr (lv (r_0 u) (nr (mv u ?_))))
 obtain⟨J,q,s⟩:=ob hm
 refine lk co120 (ok_cmp_isNaN_int F hS.enter0 m q) ?_
 rintro O R ⟨S,rfl,x⟩
 have l:=(hS.c0 x).t0
 refine av u (nr (mv u ?_))
 obtain⟨T,y,A⟩:=ob s
 refine lk co120 (ok_cmp_isNaN_int F l.enter0 o y) ?_
 rintro U V ⟨a,rfl,B⟩
 have b:=(l.c0 B).t0
 refine av u (nsr (mv u (nq (wcc A u (fun C c=>?_) (fun C c=>?_)))))
 ·refine wc_seq (sr (mv u (nq (wcc c u (fun D d=>?_) (fun D d=>?_)))))
  ·refine sr (lv (r_0 u) (nq (rr (qe_then_ret ?_))))
   cases oi d
   exact ey results102 ⟨a,u,b,d_0⟩
  refine wc_skip (qr (lv (rv_assign (v:=V6 (-1)) u) (nq (rr ?_))))
  cases oi d
  exact ey results102 ⟨a,u,b,(by decide :rng64 (-1))⟩
 refine wc_skip (qs (sr (mv u (nq (wcc c u (fun G f=>?_) (fun G f=>?_))))))
 ·refine sr (lv (rv_assign (v:=V6 1) u) (nq (rr ?_)))
  cases oi f
  exact ey results102 ⟨a,u,b,(by decide :rng64 1)⟩
 refine wc_skip (qs (sr (mv u (mv u (lv (rv_lss u u) (nq (wcc f u (fun H i=>?_) (fun H i=>?_))))))))
 ·refine sr (lv (rv_assign (v:=V6 (-1)) u) (nq (rr ?_)))
  cases oi i
  exact ey results102 ⟨a,u,b,(by decide :rng64 (-1))⟩
 refine wc_skip (qs (sr (mv u (mv u (lv (rv_gtr u u) (nq (wcc i u (fun I k=>?_) (fun I k=>?_))))))))
 ·refine sr (lv (rv_assign (v:=V6 1) u) (nq (rr ?_)))
  cases oi k
  exact ey results102 ⟨a,u,b,(by decide :rng64 1)⟩
 refine wc_skip (qr (lv (r_0 u) (nq (wc_ret ?_))))
 cases oi k
 exact ey results102 ⟨a,u,b,d_0⟩

theorem ok_impl_hitOrder {q0:GHit}{q1:GHit}{r:Int}(hS:SH w K [] w K [])(y:rng64 q0.Doc)(A:rng64 q0.Points)(B:rng64 q1.Doc)(C:rng64 q1.Points)(hm:M.impl_hitOrder F q0 q1=some r):
  Calls prog 77 #[.agg #[V6 q0.Doc,V6 q0.Points],.agg #[V6 q1.Doc,V6 q1.Points]] w (R_i w K r):=by
 rw [M.impl_hitOrder] at hm
 refine ci func77 rfl ntmps77 (sr (bx rfl hS fun o w6 D=>?_))
 have G:SH _ _ _ _ _ [obj o [V6 q0.Doc,V6 q0.Points] 62]:=D
 refine bx rfl G fun q ac H=>?_
 have I:SH _ _ _ _ _ [obj q [V6 q1.Doc,V6 q1.Points] 62,_]:=H
 refine lv (r_0 rfl) (ns ?_)
 have a:=I.drew
 refine j_0 (fun w'=>Holds K w'∧HasObj q [V6 q1.Doc,V6 q1.Points] w'∧HasObj o [V6 q0.Doc,V6 q0.Points] w') 13 [] mixed ⟨a.hasK kr,a.hasObj m0,a.hasObj m1⟩ (jv 0 rfl (rv_fieldAddr ff62_1 rfl) (jh 1 rfl (fun _ h=>rh_loadm1 tf3 rfl rfl h.2.1) (jv 2 rfl (rv_fieldAddr ff62_1 rfl) (jh 3 rfl (fun _ h=>rh_loadm1 tf3 rfl rfl h.2.2) (jv 5 rfl (rv_fieldAddr ff62_0 rfl) (jh 6 rfl (fun _ h=>rh_loadm1 tf3 rfl rfl h.2.2) (jv 7 rfl (rv_fieldAddr ff62_0 rfl) (jh 8 rfl (fun _ h=>rh_loadm1 tf3 rfl rfl h.2.1) (j1 4 rfl ?_)))))))))
 obtain⟨b,J,O⟩:=ob hm
 refine lk co102 (ok_cmp_Compare_int F a.enter0 C A J) ?_
 rintro ad ae ⟨af,rfl,c,R⟩
 have d:=(a.c0 c).t2
 refine j_o ⟨d.hasK c.le,d.hasObj m0,d.hasObj m1⟩ (j1 9 rfl ?_)
 obtain⟨f,S,T⟩:=ob O
 refine lk co102 (ok_cmp_Compare_int F d.enter0 y B S) ?_
 rintro ag ah ⟨ai,rfl,k,U⟩
 have l:=(d.c0 k).t2
 refine j_o ⟨l.hasK (c.le.trans k.le),l.hasObj m0,l.hasObj m1⟩ (j1 10 rfl (wl_buildSlice (t:=tInt) (n:=2) (pv:=[(0,V6 b),(1,V6 f)]) (cs:=[V6 b,V6 f]) (xs:=[b,f]) wn rfl underlying57 tf3 rfl rfl rfl (by kernel_rfl) rfl rfl (lit_cons (u:=V6 b) (z:=b) ⟨rfl,R⟩ (lit_cons (u:=V6 f) (z:=f) ⟨rfl,U⟩ lit_nil)) l fun aj ak al s V i=>(j_o ⟨i.hasK ((c.le.trans k.le).trans s),i.hasObj m1,i.hasObj m2⟩ (j1 11 rfl ?_))))
 obtain⟨am,W,X⟩:=ob T
 refine lk co101 (ok_cmp_Or_int F i.enter0 V W) ?_
 rintro an ao ⟨Y,rfl,x,aa⟩
 have m:=(i.c0 x).t3
 refine j_o ⟨m.hasK (((c.le.trans k.le).trans s).trans x.le),m.hasObj m1,m.hasObj m2⟩ (jv 12 rfl (rv_assign rfl) (jd (qe_seq (wc_ret ?_))))
 cases oi X
 exact ey results77 ⟨Y,rfl,m.s,aa⟩

theorem ok_impl_HitsOk {q0:List GHit}{r:Bool}(hS:SH w K [] w K [])(k:SliceAt tGHit K A a b q0)(hm:M.impl_HitsOk F q0=some r):
  Calls prog 44 #[V3 A a b] w (R_b w K r):=by
 rw [M.impl_HitsOk] at hm
 refine ci func44 u ntmps44 (sr (lv (r_f u) (nsr (mv u (lv (rv_len underlying24 u k) (lv (r_m u) (nq ?_)))))))
 obtain⟨Y,h6,o⟩:=ob hm
 refine wc_cutg (IE Y w K [] K [(0,V3 A a b)] []) ?_ ?_
 ·refine wc_block ?_
  obtain⟨bk,ab,I⟩:=ob h6
  refine qf (fun (x:Nat) (J:Unit)=>IV w K [] K [(0,V3 A a b),(5,V3 A a b),(6,V6 (q0.length:Int)),(7,V6 ((x:Nat):Int))] []) ab ⟨K,u,hS,kr⟩ ?_ ?_
  ·rintro x J _ ac bl hi23 ad ae ⟨y,rfl,q,l⟩
   refine sr (lv (rv_lss u u) (ns (wc_cond_t u (decide_eq_true (by omega)) (wc_skip (qe_seq (wc_seq (wc_block (sr (mv u ?_)))))))))
   obtain⟨m,af,ag⟩:=ob ad
   refine li underlying24 tf62 (k.mono l) af fun ah ai bm aj ak=>?_
   obtain⟨rfl,s,O⟩:=aj
   have am:AtK _ ah ai [V6 m.Doc,V6 m.Points]:=ak
   refine lv (rv_loadS tf62 u q am u) (al tf62 q fun an bn ao=>?_)
   have ap:SH _ _ _ _ _ [obj an [V6 0,V6 0] 62]:=ao
   refine av u (lw [V6 m.Doc,V6 m.Points] tf62 ap fun bo R=>(ns ?_))
   obtain⟨aq,ar,au⟩:=ob ag
   refine wc_cutg (IV w K [] y [(0,V3 A a b),(5,V3 A a b),(6,V6 (q0.length:Int)),(7,V6 ((x:Nat):Int)),(42,.bool aq)] []) ?_ ?_
   ·refine wc_quiet mixed (by kernel_rfl) R (kv (rv_fieldAddr ff62_0 u) (kh (rq_loadm1 tf3 u m0 u) ?_))
    obtain⟨bp,aw,ax⟩:=ob ar
    refine kc co43 (fun _ _ ay bq=>(ok_impl_within F) ay.enter0 s (by decide :rng64 1) (by decide :rng64 9999) aw) (kv (rv_not u) (km u (bt ax (fun i B=>?_) (fun i B=>?_))))
    ·refine kn i (kn i (kn i (kv (p_t u i u) (km u ?_))))
     iterate 6 refine qv u u u u ?_
     refine kv (p_t u u u) (km u (qv u u u u (qv u u u u (qv u u u u ?_))))
     iterate 8 refine ku ?_
     refine qv u u u u (kv (p_t u u u) (wq_nil ?_))
     rintro br ⟨az,aA,aB⟩
     cases oi B
     exact qd ⟨az,u,aA.s,aB⟩
    refine kg i (rv_fieldAddr ff62_1 u) (kgh i (rq_loadm1 tf3 u m0 u) (kg i (rv_lss u u) (kv (rv_pick_f u i u) (km u (bt B (fun f C=>?_) (fun f C=>?_))))))
    ·iterate 6 refine kn f ?_
     refine kv (p_t u f u) (km u (qv u u u u (qv u u u u (qv u u u u ?_))))
     iterate 8 refine ku ?_
     refine qv u u u u (kv (p_t u u u) (wq_nil ?_))
     rintro bs ⟨aC,aD,aE⟩
     cases oi C
     exact qd ⟨aC,u,aD.s,aE⟩
    refine kg f (rv_move u) (kg f (rv_move u) ?_)
    obtain⟨bu,aF,aG⟩:=ob C
    refine wq_sl_h (t:=tGHit) (wg u u f) u underlying24 tf62 u u (k.mono l) aF fun bv bx bz aH=>(kg f (rv_fieldAddr ff62_0 u) (kgh f (rq_loadm1 tf3 u m0 u) ?_))
    obtain⟨bA,aI,aJ⟩:=ob aG
    refine kcg f co45 (fun _ _ aK aL=>(ok_impl_hasDoc F) aK.enter0 (aH.mono aL) s aI) (kv (rv_pick_f u f u) (km u (bt aJ (fun c D=>?_) (fun c D=>?_))))
    ·refine kn c (kn c (kn c ?_))
     iterate 8 refine ku ?_
     refine kn c (kv (p_t u c u) (wq_nil ?_))
     rintro bB ⟨aM,aN,aO⟩
     cases oi D
     exact qd ⟨aM,u,aN.s,aO⟩
    refine kg c (rv_move u) (kg c (rv_gtr u u) (kg c (rv_move u) (bt D (fun d G=>?_) (fun d G=>?_))))
    ·refine kg d (rv_move u) (kg d (rv_move u) (kg d (rv_sub u u) ?_))
     obtain⟨S,aP,aQ⟩:=ob G
     refine wq_indexAddr (t:=tGHit) (wg u u d) u underlying24 tf62 u u (k.mono l) aP fun aR aS bC aT aU=>?_
     obtain⟨rfl,T,U⟩:=aT
     have aV:AtK _ aR aS [V6 S.Doc,V6 S.Points]:=aU
     refine kgh d (rq_loadS tf62 u aV u) (kgh d (rq_loadmS (ds:=[V6 m.Doc,V6 m.Points]) tf62 u m0 u u) ?_)
     obtain⟨bD,V,aW⟩:=ob aQ
     refine kdg d co77 (fun _ _ aX bE=>(ok_impl_hitOrder F) aX.enter0 T U s O V) ?_
     obtain⟨_,_,_,⟨_,_,_,bF⟩,_⟩:=(ok_impl_hitOrder F) R.enter0 T U s O V []
     refine kg d (rv_geq u u) (kg c (rv_pick_t u d u) (kv (rv_pick_f u c u) (wq_nil ?_)))
     rintro bG ⟨aY,aZ,ba⟩
     cases oi aW
     exact qd ⟨aY,u,aZ.s,ba⟩
    iterate 8 refine kn d ?_
    refine kg c (p_f u d u) (kv (rv_pick_f u c u) (wq_nil ?_))
    rintro bH ⟨bb,bc,bd⟩
    cases oi G
    exact qd ⟨bb,u,bc.s,bd⟩
   rintro _ bI ⟨W,rfl,X,be⟩
   refine qe_seq (wcc au u (fun bf H=>?_) (fun bf H=>?_))
   ·refine sr (lv (r_f u) (nq (wc_ret (qe_block_ret (qe_then_ret (qe_then_ret ?_))))))
    cases oi H
    cases ae _ u
    refine qe_block_ret (qe_then_ret ?_)
    cases oi I
    refine qe_then_ret ?_
    cases oi o
    exact ey results44 ⟨W,u,X⟩
   refine wc_skip (qe_block (qg (lv (rv_add_to u u (w64_succ hi23 (SliceAt.max k))) (mv u (wl_nil ?_)))))
   cases oi H
   exact qd ⟨_,u,W,u,X,(l.trans be)⟩
  rintro J _ ac bg ⟨y,rfl,q,l⟩
  subst bg
  refine sr (lv (rv_lss u u) (ns (wc_cond_f u (decide_eq_false (by omega)) (wc_exit (qe_then_exit (qe_then_exit (qe_block_eq ?_)))))))
  cases oi I
  exact qd ⟨_,y,u,u,q,l⟩
 rintro _ bJ ⟨s8,K9,rfl,rfl,bi,bj⟩
 have o:=elim_l o
 refine qr (mv u (lv (rv_len underlying24 u (k.mono bj)) (lv (rv_leq u u) (av u (nq (wc_ret ?_))))))
 cases oi o
 exact ey results44 ⟨K9,u,bi⟩

theorem ok_impl_firstHits {q0:List GHit}{q1:Int}{r:(List GHit)}(hS:SH w K [] w K [])(f:SliceAt tGHit K A a b q0)(al:rng64 q1)(hm:M.impl_firstHits F q0 q1=some r):
  Calls prog 46 #[V3 A a b,V6 q1] w fun e w'=>∃a_1 n_2 c_3 K',e= .returned (V3 a_1 n_2 c_3)∧SH w K [] w' K' [tail (V3 a_1 n_2 c_3) 62 2]∧SliceAt tGHit K' a_1 n_2 c_3 r:=by
 rw [M.impl_firstHits] at hm
 refine ci func46 rfl ntmps46 (sr (lv (r_n rfl) (nr (b0 tGHit underlying24 tf62 hS fun a6 w7 K8 i k l=>(mv rfl ?_)))))
 obtain⟨ap,m,o⟩:=ob hm
 refine lp underlying24 tf62 k (f.mono i) m l fun q s B aq ar au C D=>(av rfl (nr (mv rfl ?_)))
 obtain⟨aw,G,H⟩:=ob o
 refine wl_call wn rfl (rt_call (vs:=[V3 q s B,.func (.func 77) #[] #[]]) co80 rfl) (sort_call (T:=tGHit) sortLay80 sortNone80 rfl (fun w=>Go.Fk.run_isAgg tf62 w) (fun w=>Go.Fk.run_sizeOf tf62 w) (fun a b=>M.impl_hitOrder F a b) 77 (Go.Proofs.enters_of func77 (by kernel_rfl) rfl) D hS.holds (fun b hb=>by cases hb) C (fun _ _ _ _ _ h=>h) (fun K1 W v x u y r hW I J hm=>by
  obtain⟨rfl,O,R⟩:=I
  obtain⟨rfl,S,U⟩:=J
  exact(ok_impl_hitOrder (dr:=⟨True⟩) F (SH.start (dr:=⟨True⟩) hW) O R S U hm).mono fun e w' ⟨K',he,hS',_⟩=>⟨K',he,hS'⟩) G) ?_
 rintro ay az ⟨aA,rfl,V,c⟩
 refine⟨_,rfl,?_⟩
 refine nr (b0 tGHit underlying24 tf62 V fun aB aC aD d X Y=>(mv rfl (mv rfl (lv (rv_len underlying24 rfl (c.mono d)) (mv rfl (lv (rv_min2 rfl rfl) ?_))))))
 obtain⟨aE,aa,ab⟩:=ob H
 refine wl_sl_h (t:=tGHit) wn rfl underlying24 tf62 rfl rfl (c.mono d) aa fun aF aG aH ac=>?_
 obtain⟨aI,ad,ae⟩:=ob ab
 refine lp underlying24 tf62 X ac ad Y fun af ag ah aJ ai aK aj ak=>(av rfl (nq (wc_ret ?_)))
 cases oi ae
 exact ey results46 ⟨af,ag,ah,ai,rfl,ak.s,aj⟩

theorem ok_impl_TopMerge {q0:List (List GHit)}{q1:Int}{r:(List GHit)}(hS:SH w K [] w K [])(x:SliceAt (tSlice tGHit) K A a b q0)(aj:rng64 q1)(hm:M.impl_TopMerge F q0 q1=some r):
  Calls prog 10 #[V3 A a b,V6 q1] w fun e w'=>∃a_1 n_2 c_3 K',e= .returned (V3 a_1 n_2 c_3)∧SH w K [] w' K' [tail (V3 a_1 n_2 c_3) 62 2]∧SliceAt tGHit K' a_1 n_2 c_3 r:=by
 rw [M.impl_TopMerge] at hm
 refine ci func10 u ntmps10 (sr (lv (r_n u) (ns (wc_seq ?_))))
 obtain⟨o6,h7,h8⟩:=ob hm
 refine wc_cutg (IV w K [] K [(0,V3 A a b),(1,V6 q1),(17,.bool o6)] []) ?_ ?_
 ·refine wc_region (mv u (lv (rv_len (t:=(tSlice tGHit)) underlying26 u x) (lv (rv_gtr u u) (mv u (bt h7 (fun i V=>?_) (fun i V=>?_))))))
  ·refine lu i (lu i (lu i (lv (p_t u i u) (wl_nil ?_))))
   cases oi V
   exact qd ⟨K,u,hS,kr⟩
  refine lg i (rv_move u) ?_
  obtain⟨cg,aC,aD⟩:=ob V
  refine wl_call (wg u u i) u (rt_call (vs:=[V6 q1,V6 1,V6 16]) co43 u) (ok_impl_within F hS.enter0 aj (by decide :rng64 1) (by decide :rng64 16) aC) ?_
  rintro ch cj ⟨aE,rfl,ak⟩
  refine⟨_,u,?_⟩
  have aF:=(hS.c0 ak).t0
  refine lg i (rv_not u) (lv (rv_pick_f u i u) (wl_nil ?_))
  cases oi aD
  exact qd ⟨aE,u,aF,ak.le⟩
 rintro _ ck ⟨K9,rfl,am,W⟩
 refine qe_seq (wcc h8 u (fun aG X=>?_) (fun aG X=>?_))
 ·refine sr (b0 tGHit underlying24 tf62 am fun aH cm aI cn aJ aK=>(av u (nq (rr ?_))))
  cases oi X
  exact ey results10 ⟨aH,0,0,aI,u,aK,aJ⟩
 refine wc_skip (qr (b0 tGHit underlying24 tf62 am fun aL cp Y aa aM aN=>(av u (nsr (mv u (lv (rv_len (t:=(tSlice tGHit)) underlying26 u (x.mono (W.trans aa))) (lv (r_m u) (nq ?_))))))))
 obtain⟨aO,aP,m⟩:=ob X
 refine wc_cutg (fun E' w'=>∃ab y B C D,aO= .inl ab∧E'=[(1,V6 q1),(5,V3 y B C)]∧SH w K [] w' D [tail (V3 y B C) 62 2]∧KLe Y D∧SliceAt tGHit D y B C ab) ?_ ?_
 ·refine wc_block ?_
  obtain⟨cq,aQ,ac⟩:=ob aP
  refine qf (fun (G:Nat) (ad:(List GHit)) E' w'=>∃c d f l,E'=[(1,V6 q1),(5,V3 c d f),(20,V3 A a b),(21,V6 (q0.length:Int)),(22,V6 ((G:Nat):Int))]∧SH w K [] w' l [tail (V3 c d f) 62 2]∧KLe Y l∧SliceAt tGHit l c d f ad) aQ ⟨aL,0,0,Y,u,aN,kr,aM⟩ ?_ ?_
  ·rintro G ad _ aR cr hi64 aS an ⟨c,d,f,l,rfl,o,H,I⟩
   refine sr (lv (rv_lss u u) (ns (wc_cond_t u (decide_eq_true (by omega)) (wc_skip (qe_seq (wc_seq (wc_block (sr ?_))))))))
   obtain⟨aT,aU,aV⟩:=ob aS
   refine li underlying26 tf24 (x.mono ((W.trans aa).trans H)) aU fun aW aX cs aY aZ=>?_
   obtain⟨J,O,R,rfl,q⟩:=aY
   have ba:AtK _ aW aX [V3 J O R]:=aZ
   refine lv (rv_load1 tf24 u o (ba 0 _ u)) (av u (nsr (mv u ?_)))
   obtain⟨ct,bb,bc⟩:=ob aV
   refine lk co44 (ok_impl_HitsOk F o.enter0 q bb) ?_
   rintro cu cv ⟨ae,rfl,k⟩
   have ao:=(o.c0 k).t1
   refine lv (rv_not u) (nq (wcc bc u (fun bd af=>?_) (fun bd af=>?_)))
   ·refine sr (b0 tGHit underlying24 tf62 ao fun be cw bf cx bg bh=>(av u (nq (rr (qe_block_ret (qe_then_ret (qe_then_ret ?_)))))))
    cases oi af
    cases an _ u
    refine qe_block_ret (qe_then_ret ?_)
    cases oi ac
    refine qe_then_ret ?_
    cases oi m
    exact ey results10 ⟨be,0,0,bf,u,bh.s,bg⟩
   refine wc_skip (qs (sr (mv u (lv (rv_len underlying24 u (q.mono k.le)) (lv (r_m u) (nq ?_))))))
   obtain⟨bi,bj,S⟩:=ob af
   refine wc_cutg (IE bi w K [] ae [(1,V6 q1),(5,V3 c d f),(7,V3 J O R),(20,V3 A a b),(21,V6 (q0.length:Int)),(22,V6 ((G:Nat):Int))] [tail (V3 c d f) 62 2]) ?_ ?_
   ·refine wc_block ?_
    obtain⟨cy,bk,ap⟩:=ob bj
    refine qf (fun (aq:Nat) (ar:Unit)=>IV w K [] ae [(1,V6 q1),(5,V3 c d f),(7,V3 J O R),(20,V3 A a b),(21,V6 (q0.length:Int)),(22,V6 ((G:Nat):Int)),(30,V3 J O R),(31,V6 (aT.length:Int)),(32,V6 ((aq:Nat):Int))] [tail (V3 c d f) 62 2]) bk ⟨ae,u,ao,kr⟩ ?_ ?_
    ·rintro aq ar _ bl cz hi116 bm bn ⟨au,rfl,T,s⟩
     refine sr (lv (rv_lss u u) (ns (wc_cond_t u (decide_eq_true (by omega)) (wc_skip (qe_seq (wc_seq (wc_block (sr ?_))))))))
     obtain⟨U,bo,bp⟩:=ob bm
     refine li underlying24 tf62 (q.mono (k.le.trans s)) bo fun bq br cA bs bu=>?_
     obtain⟨rfl,bv,cB⟩:=bs
     have bx:AtK _ bq br [V6 U.Doc,V6 U.Points]:=bu
     refine lv (rv_loadS tf62 u T bx u) (al tf62 T fun bz cC bA=>?_)
     have bB:SH _ _ _ _ _ [obj bz [V6 0,V6 0] 62,_]:=bA
     refine lw [V6 U.Doc,V6 U.Points] tf62 bB fun cD ag=>(nr (mv u (fl ff62_0 u tf3 m0 ag u ?_)))
     obtain⟨cE,bC,bD⟩:=ob bp
     refine lk co45 (ok_impl_hasDoc F ag.enter0 (I.mono (k.le.trans s)) bv bC) ?_
     rintro cF cG ⟨bE,rfl,aw⟩
     have ax:=(ag.c0 aw).t2
     refine nq (wcc bD u (fun bF ah=>?_) (fun bF ah=>?_))
     ·refine sr (b0 tGHit underlying24 tf62 ax fun bG cH bH cI bI bJ=>(av u (nq (wc_ret (qe_block_ret (qe_then_ret (qe_then_ret ?_)))))))
      cases oi ah
      cases bn _ u
      refine qe_block_ret (qe_then_ret ?_)
      cases oi ap
      refine qe_then_ret (qe_block_ret (qe_then_ret (qe_then_ret ?_)))
      cases oi S
      cases an _ u
      refine qe_block_ret (qe_then_ret ?_)
      cases oi ac
      refine qe_then_ret ?_
      cases oi m
      exact ey results10 ⟨bG,0,0,bH,u,bJ.s,bI⟩
     refine wc_skip (qe_block (qg (lv (rv_add_to u u (w64_succ hi116 (SliceAt.max (q.mono k.le)))) (mv u (wl_nil ?_)))))
     cases oi ah
     exact qd ⟨_,u,bE,u,ax.s,(s.trans aw.le)⟩
    rintro ar _ bl bK ⟨au,rfl,T,s⟩
    subst bK
    refine sr (lv (rv_lss u u) (ns (wc_cond_f u (decide_eq_false (by omega)) (wc_exit (qe_then_exit (qe_then_exit (qe_block_eq ?_)))))))
    cases oi ap
    exact qd ⟨_,au,u,u,T,s⟩
   rintro _ cJ ⟨cK,cL,rfl,rfl,bL,ai⟩
   have S:=elim_l S
   refine qe_seq (wc_region (mv u (mv u ?_)))
   obtain⟨cM,bM,bN⟩:=ob S
   refine lp underlying24 tf62 (I.mono (k.le.trans ai)) (q.mono (k.le.trans ai)) bM bL fun bO bP bQ cN bR bS bT bU=>(av u (nb (qg (lv (rv_add_to u u (w64_succ hi64 (SliceAt.max (x.mono (W.trans aa))))) (mv u (wl_nil ?_))))))
   cases oi bN
   exact qd ⟨_,u,bO,bP,bQ,bR,u,bU,(((H.trans k.le).trans ai).trans bS),bT⟩
  rintro ad _ aR bV ⟨c,d,f,l,rfl,o,H,I⟩
  subst bV
  refine sr (lv (rv_lss u u) (ns (wc_cond_f u (decide_eq_false (by omega)) (wc_exit (qe_then_exit (qe_then_exit (qe_block_eq ?_)))))))
  cases oi ac
  exact qd ⟨_,c,d,f,l,u,u,o,H,I⟩
 rintro _ cO ⟨ab,y,B,C,D,rfl,rfl,ay,cP,bW⟩
 have m:=elim_l m
 refine qr (mv u (mv u ?_))
 obtain⟨cQ,bX,bY⟩:=ob m
 refine lk co46 (ok_impl_firstHits F ay.enter0 bW aj bX) ?_
 rintro cR cS ⟨bZ,ca,cb,cc,rfl,cd,ce⟩
 have cf:=(ay.c0 cd).t2
 refine av u (nq (wc_ret ?_))
 cases oi bY
 exact ey results10 ⟨bZ,ca,cb,cc,u,cf.s,ce⟩

theorem ok_laws_eqHit {q0:GHit}{q1:GHit}{r:Bool}(hS:SH w K [] w K [])(q:rng64 q0.Doc)(s:rng64 q0.Points)(x:rng64 q1.Doc)(y:rng64 q1.Points)(hm:M.laws_eqHit F q0 q1=some r):
  Calls prog 47 #[.agg #[V6 q0.Doc,V6 q0.Points],.agg #[V6 q1.Doc,V6 q1.Points]] w (R_b w K r):=by
 rw [M.laws_eqHit] at hm
 refine ci func47 u ntmps47 (sr (bx u hS fun f A i=>?_))
 have k:SH _ _ _ _ _ [obj f [V6 q0.Doc,V6 q0.Points] 62]:=i
 refine bx u k fun l B m=>?_
 have a:SH _ _ _ _ _ [obj l [V6 q1.Doc,V6 q1.Points] 62,_]:=m
 refine lv (r_f u) (nsr (fl ff62_0 u tf3 m1 a u (fl ff62_0 u tf3 m0 a u (lv (rv_neq u u) (nq (wc_cond u (fun b=>?_) (fun b=>?_)))))))
 ·have c:=cond_t b hm
  refine sr (lv (r_f u) (nq (rr ?_)))
  cases oi c
  exact ey results47 ⟨K,u,a.s⟩
 have c:=cond_f b hm
 refine wc_skip (qs (sr (fl ff62_1 u tf3 m1 a u (fl ff62_1 u tf3 m0 a u (lv (rv_neq u u) (nq (wcc c u (fun o d=>?_) (fun o d=>?_))))))))
 ·refine sr (lv (r_f u) (nq (rr ?_)))
  cases oi d
  exact ey results47 ⟨K,u,a.s⟩
 refine wc_skip (qr (lv (r_t u) (nq (wc_ret ?_))))
 cases oi d
 exact ey results47 ⟨K,u,a.s⟩

theorem ok_laws_eqHitS {q0:List GHit}{q1:List GHit}{r:Bool}(hS:SH w K [] w K [])(k:SliceAt tGHit K A a b q0)(x:SliceAt tGHit K B c d q1)(hm:M.laws_eqHitS F q0 q1=some r):
  Calls prog 11 #[V3 A a b,V3 B c d] w (R_b w K r):=by
 rw [M.laws_eqHitS] at hm
 refine ci func11 u ntmps11 (sr (lv (r_f u) (nsr (mv u (lv (rv_len underlying24 u k) (mv u (lv (rv_len underlying24 u x) (lv (rv_neq u u) (nq ?_)))))))))
 refine wc_cond u (fun l=>?_) (fun l=>?_)
 ·have m:=cond_t l hm
  refine sr (lv (r_f u) (nq (rr ?_)))
  cases oi m
  exact ey results11 ⟨K,u,hS⟩
 have m:=cond_f l hm
 refine wc_skip (qs (sr (lv (r_0 u) (nq ?_))))
 obtain⟨O,R,i⟩:=ob m
 refine wc_cutg (IE O w K [] K [] []) ?_ ?_
 ·refine wc_block ?_
  obtain⟨az,S,y⟩:=ob R
  refine qw (fun (o:Int)=>IW w K [] K [(0,V3 A a b),(1,V3 B c d),(5,V6 o)] [] (rng64 o)) S ⟨K,u,hS,kr,d_0⟩ ?_
  rintro o _ aA aB T C ⟨U,rfl,D,f,aC⟩
  refine wc_seq (sr (mv u (mv u (lv (rv_len underlying24 u (k.mono f)) (lv (rv_lss u u) (nq (wcc T u (fun V q=>?_) (fun V q=>?_))))))))
  ·refine wc_skip (qs (wc_block (wc_seq (wc_quiet mixed (by kernel_rfl) D (km u (km u ?_))))))
   obtain⟨G,W,X⟩:=ob q
   refine ki underlying24 tf62 (k.mono f) W fun Y aa aD ab ac=>?_
   obtain⟨rfl,ad,ae⟩:=ab
   have af:AtK _ Y aa [V6 G.Doc,V6 G.Points]:=ac
   refine kh (rq_loadS tf62 u af u) (km u (km u ?_))
   obtain⟨H,ag,ah⟩:=ob X
   refine ki underlying24 tf62 (x.mono f) ag fun ai aj aE ak al=>?_
   obtain⟨rfl,am,an⟩:=ak
   have ao:AtK _ ai aj [V6 H.Doc,V6 H.Points]:=al
   refine kh (rq_loadS tf62 u ao u) ?_
   obtain⟨aF,ap,aq⟩:=ob ah
   refine kc co47 (fun _ _ ar aG=>(ok_laws_eqHit F) ar.enter0 ad ae am an ap) (kv (rv_not u) (wq_nil ?_))
   rintro aH ⟨I,J,au⟩
   refine qe_seq (wcc aq u (fun aw s=>?_) (fun aw s=>?_))
   ·refine sr (lv (r_f u) (nq (wc_ret (qe_block_ret (qe_then_ret (qe_then_ret ?_))))))
    cases oi s
    cases C _ u
    refine qe_block_ret (qe_then_ret ?_)
    cases oi y
    refine qe_then_ret ?_
    cases oi i
    exact ey results11 ⟨I,u,J⟩
   refine wc_skip (qe_block (qe_seq (wc_region (mv u (lv (rv_add u u) (av u (wl_nil ?_)))))))
   cases oi s
   exact qd ⟨_,u,I,u,J,(f.trans au),(w64_rng _)⟩
  refine wc_exit (qe_then_exit (qe_then_exit ?_))
  cases oi q
  cases C _ u
  refine qe_block_eq ?_
  cases oi y
  exact qe_mid' ⟨_,U,u,u,D,f⟩ trivial
 rintro _ aI ⟨aJ,ax,rfl,rfl,ay,aK⟩
 have i:=elim_l i
 refine qr (lv (r_t u) (nq (wc_ret ?_)))
 cases oi i
 exact ey results11 ⟨ax,u,ay⟩

theorem ok_laws_eqHitSS {q0:List (List GHit)}{q1:List (List GHit)}{r:Bool}(hS:SH w K [] w K [])(k:SliceAt (tSlice tGHit) K A a b q0)(x:SliceAt (tSlice tGHit) K B c d q1)(hm:M.laws_eqHitSS F q0 q1=some r):
  Calls prog 12 #[V3 A a b,V3 B c d] w (R_b w K r):=by
 rw [M.laws_eqHitSS] at hm
 refine ci func12 u ntmps12 (sr (lv (r_f u) (nsr (mv u (lv (rv_len (t:=(tSlice tGHit)) underlying26 u k) (mv u (lv (rv_len (t:=(tSlice tGHit)) underlying26 u x) (lv (rv_neq u u) (nq ?_)))))))))
 refine wc_cond u (fun l=>?_) (fun l=>?_)
 ·have m:=cond_t l hm
  refine sr (lv (r_f u) (nq (rr ?_)))
  cases oi m
  exact ey results12 ⟨K,u,hS⟩
 have m:=cond_f l hm
 refine wc_skip (qs (sr (lv (r_0 u) (nq ?_))))
 obtain⟨J,O,i⟩:=ob m
 refine wc_cutg (IE J w K [] K [] []) ?_ ?_
 ·refine wc_block ?_
  obtain⟨aC,R,y⟩:=ob O
  refine qw (fun (o:Int)=>IW w K [] K [(0,V3 A a b),(1,V3 B c d),(5,V6 o)] [] (rng64 o)) R ⟨K,u,hS,kr,d_0⟩ ?_
  rintro o _ aD aE S C ⟨T,rfl,D,f,aF⟩
  refine wc_seq (sr (mv u (mv u (lv (rv_len (t:=(tSlice tGHit)) underlying26 u (k.mono f)) (lv (rv_lss u u) (nq (wcc S u (fun U q=>?_) (fun U q=>?_))))))))
  ·refine wc_skip (qs (wc_block (wc_seq (wc_quiet mixed (by kernel_rfl) D (km u (km u ?_))))))
   obtain⟨aG,V,W⟩:=ob q
   refine ki underlying26 tf24 (k.mono f) V fun X Y aH aa ab=>?_
   obtain⟨ac,ad,ae,rfl,af⟩:=aa
   have ag:AtK _ X Y [V3 ac ad ae]:=ab
   refine kh (rq_load1 tf24 u (ag 0 _ u)) (km u (km u ?_))
   obtain⟨aI,ah,ai⟩:=ob W
   refine ki underlying26 tf24 (x.mono f) ah fun aj ak aJ al am=>?_
   obtain⟨an,ao,ap,rfl,aq⟩:=al
   have ar:AtK _ aj ak [V3 an ao ap]:=am
   refine kh (rq_load1 tf24 u (ar 0 _ u)) ?_
   obtain⟨aK,au,aw⟩:=ob ai
   refine kc co11 (fun _ _ ax G=>(ok_laws_eqHitS F) ax.enter0 (af.mono G) (aq.mono G) au) (kv (rv_not u) (wq_nil ?_))
   rintro aL ⟨H,I,ay⟩
   refine qe_seq (wcc aw u (fun az s=>?_) (fun az s=>?_))
   ·refine sr (lv (r_f u) (nq (wc_ret (qe_block_ret (qe_then_ret (qe_then_ret ?_))))))
    cases oi s
    cases C _ u
    refine qe_block_ret (qe_then_ret ?_)
    cases oi y
    refine qe_then_ret ?_
    cases oi i
    exact ey results12 ⟨H,u,I⟩
   refine wc_skip (qe_block (qe_seq (wc_region (mv u (lv (rv_add u u) (av u (wl_nil ?_)))))))
   cases oi s
   exact qd ⟨_,u,H,u,I,(f.trans ay),(w64_rng _)⟩
  refine wc_exit (qe_then_exit (qe_then_exit ?_))
  cases oi q
  cases C _ u
  refine qe_block_eq ?_
  cases oi y
  exact qe_mid' ⟨_,T,u,u,D,f⟩ trivial
 rintro _ aM ⟨aN,aA,rfl,rfl,aB,aO⟩
 have i:=elim_l i
 refine qr (lv (r_t u) (nq (wc_ret ?_)))
 cases oi i
 exact ey results12 ⟨aA,u,aB⟩

theorem ok_laws_markHitS {B:List Nat}{KM:KMap}{q0:List GHit}{q1:Int}{r:Int}(hS:SH w K Z w K [mkI B KM])(d:SliceAt tGHit (KM.only B) A a b q0)(s:rng64 q1)(hm:M.laws_markHitS F q0 q1=some r):
  Calls prog 14 #[V3 A a b,V6 q1] w fun e w'=>∃K',e= .returned (V6 r)∧SH w K Z w' K' [mkI B KM]∧rng64 r:=by
 rw [M.laws_markHitS] at hm
 refine ci func14 u ntmps14 (sr (lv (r_0 u) (nsr (lv (r_0 u) (nq ?_)))))
 obtain⟨i,x,y⟩:=ob hm
 refine wc_cutg (IW w K Z K [(1,V6 i)] [mkI B KM] (rng64 i)) ?_ ?_
 ·refine wc_block ?_
  obtain⟨ak,C,D⟩:=ob x
  refine qw (fun (c:Int×Int)=>IW w K Z K [(0,V3 A a b),(1,V6 c.1),(5,V6 c.2)] [mkI B KM] (rng64 c.1∧rng64 c.2)) C ⟨K,u,hS,kr,s,d_0⟩ ?_
  rintro c _ al am G H ⟨k,rfl,l,m,I,an⟩
  refine wc_seq (sr (mv u (mv u (lv (rv_len underlying24 u d) (lv (rv_lss u u) (nq (wcc G u (fun J f=>?_) (fun J f=>?_))))))))
  ·refine wc_skip (qs (wc_block (sr (mv u (mv u (mv u ?_))))))
   obtain⟨o,O,R⟩:=ob f
   refine li underlying24 tf62 d O fun S T ao U V=>?_
   obtain⟨rfl,ap,aq⟩:=U
   have W:AtK _ S T [V6 o.Doc,V6 o.Points]:=V
   refine fa ff62_0 u (mk_store (v:=V6 c.1) wn tf3 u u u l (W 0 _ u) u fun ar X=>(nr (mv u (lv (rv_add u u) (av u (nr (mv u (mv u (mv u ?_)))))))))
   obtain⟨q,Y,aa⟩:=ob R
   refine li underlying24 tf62 d Y fun ab ac au ad ae=>?_
   obtain⟨rfl,aw,ax⟩:=ad
   have af:AtK _ ab ac [V6 q.Doc,V6 q.Points]:=ae
   refine fa ff62_1 u (mk_store (v:=V6 (w64 (c.1+(1:Int)))) wn tf3 u u u X (af 1 _ u) u fun ay ag=>(nq (wc_region (mv u (lv (rv_add u u) (av u (nb (qe_seq (wc_region ?_)))))))))
   refine mv u (lv (rv_add u u) (av u (wl_nil ?_)))
   cases oi aa
   exact qd ⟨_,u,k,u,ag,m,(w64_rng _),(w64_rng _)⟩
  refine wc_exit (qe_then_exit (qe_then_exit ?_))
  cases oi f
  cases H _ u
  refine qe_block_eq ?_
  cases oi D
  exact qd ⟨k,u,l,m,I⟩
 rintro _ az ⟨K9,rfl,ai,aA,aj⟩
 refine qr (mv u (av u (nq (wc_ret ?_))))
 cases oi y
 exact ey results14 ⟨K9,u,ai,aj⟩

theorem xm_laws_markHitS (F:Nat){w:World}{K:KMap}{g0 n2 c3:Nat}{cs0:List Value}{p0_a:List GHit}{p1_k r:Int}(hS:SH w K (List.flatMap Item.gs [obj g0 cs0 62]) w K [obj g0 cs0 62])(hs4:RowN tGHit K cs0 p0_a)(hn0:n2=p0_a.length)(hx0:n2≤maxLen)(hr5:rng64 p1_k)(hm:M.laws_markHitS F p0_a p1_k=some r):
  Calls Try.prog 14 #[.slice (some ⟨g0,0,none⟩) n2 c3,.int .i64 p1_k] w fun e w'=>∃(cs':List Value) (K':KMap),e= .returned (.int .i64 r)∧SH w K (List.flatMap Item.gs [obj g0 cs0 62]) w' K' [obj g0 cs' 62]∧RowN tGHit K' cs' (marksGHit F p0_a.length p1_k)∧cs'.length=cs0.length∧rng64 r:=by
 have hml:(marksGHit F p0_a.length p1_k).length=p0_a.length:=by unfold marksGHit;rw [List.length_map,List.length_range]
 rw [M.laws_markHitS] at hm
 refine calls_in Try.func14 rfl Try.ntmps14 rfl ?_
 refine sr ?_
 refine wl_val wn rfl (rv_assign (v:=.int .i64 0) rfl) ?_
 refine nsr ?_
 refine wl_val wn rfl (rv_assign (v:=.int .i64 0) rfl) ?_
 refine nq ?_
 obtain⟨o6,h7,h8⟩:=ob hm
 refine wc_cutg (fun E' w'=>∃(K9:KMap) (cs9:List Value),E'=[(1,.int .i64 o6)]∧SH w K (List.flatMap Item.gs [obj g0 cs0 62]) w' K9 [obj g0 cs9 62]∧KLe K K9∧rng64 o6∧RowN tGHit K9 cs9 (marksGHit F p0_a.length p1_k)∧cs9.length=cs0.length) ?_ ?_
 ·refine wc_block ?_
  obtain⟨r15,h16,h17⟩:=ob h7
  refine wc_while' (fun (s14:Int×Int) E' w'=>∃(K18:KMap) (cs18:List Value) (i18:Nat),E'=[(0,.slice (some ⟨g0,0,none⟩) n2 c3),(1,.int .i64 s14.1),(5,.int .i64 s14.2)]∧SH w K (List.flatMap Item.gs [obj g0 cs0 62]) w' K18 [obj g0 cs18 62]∧KLe K K18∧rng64 s14.1∧rng64 s14.2∧s14.2=(i18:Int)∧i18≤p0_a.length∧s14.1=kapGHit p1_k i18∧RowN tGHit K18 cs18 ((marksGHit F p0_a.length p1_k).take i18++p0_a.drop i18)∧cs18.length=cs0.length) h16 ⟨K,cs0,0,rfl,hS,(KLe.refl _),hr5,d_0,rfl,Nat.zero_le _,rfl,hs4,rfl⟩ ⟨rfl,rfl,rfl,trivial⟩ ?_
  rintro s14 _ w20 r24 h25 hx26 ⟨K18,cs18,i18,rfl,hS21,hl19,hr22,hr23,hj0,hi0,hk0,hrow0,hcl0⟩
  refine wc_seq ?_
  refine sr ?_
  refine vm rfl rfl ?_
  refine vm rfl rfl ?_
  refine wl_val wn rfl (rv_lenRow Try.underlying24 rfl hn0) ?_
  refine wl_val wn rfl (rv_lss rfl rfl) ?_
  refine nq ?_
  refine wc_cond rfl (fun hb27=>?_) (fun hb27=>?_)
  ·have h28:=cond_t hb27 h25
   refine wc_skip ?_
   refine qs ?_
   refine wc_block ?_
   refine sr ?_
   refine vm rfl rfl ?_
   refine vm rfl rfl ?_
   refine vm rfl rfl ?_
   obtain⟨x29,hx30,h31⟩:=ob h28
   refine wl_val wn rfl (rv_indexRow (t:=tGHit) (xs:=p0_a) Try.underlying24 tf62 rfl rfl hn0 hx30) ?_
   refine wl_val wn rfl (rv_fieldAddr ff62_0 rfl) ?_
   refine wl_storeN (t:=tGHit) (i:=s14.2) (off:=0) (e':=(⟨s14.1,(fun y:GHit=>let ⟨_,b⟩:=y;b) x29⟩:GHit)) wn tf3 (by exact rfl) rfl rfl hS21 hrow0 (mid_get hj0 hml hx30) (by decide) (fun u hu=>by obtain⟨rfl,h1,h2⟩:=hu;exact⟨_,⟨rfl,hr22,h2⟩,rfl⟩) ?_
   intro csm1 w40 hrowm1 hclm1 hS41
   refine nr ?_
   refine vm rfl rfl ?_
   refine wl_val wn rfl (rv_add rfl rfl) ?_
   refine va rfl rfl ?_
   refine nr ?_
   refine vm rfl rfl ?_
   refine vm rfl rfl ?_
   refine vm rfl rfl ?_
   obtain⟨x42,hx43,h44⟩:=ob h31
   refine wl_val wn rfl (rv_indexRow (t:=tGHit) (xs:=p0_a) Try.underlying24 tf62 rfl rfl hn0 hx43) ?_
   refine wl_val wn rfl (rv_fieldAddr ff62_1 rfl) ?_
   refine wl_storeN (t:=tGHit) (i:=s14.2) (off:=1) (e':=⟨s14.1,w64 (s14.1+(1:Int))⟩) wn tf3 (by exact rfl) rfl rfl hS41 hrowm1 (set_get (mid_get hj0 hml hx43)) (by decide) (fun u hu=>by obtain⟨rfl,h1,h2⟩:=hu;exact⟨_,⟨rfl,h1,w64_rng _⟩,rfl⟩) ?_
   intro csm2 w53 hrowm2 hclm2 hS54
   refine nq ?_
   refine wc_region ?_
   refine vm rfl rfl ?_
   refine wl_val wn rfl (rv_add rfl rfl) ?_
   refine va rfl rfl ?_
   refine nb ?_
   refine qe_seq ?_
   refine wc_region ?_
   refine vm rfl rfl ?_
   refine wl_val wn rfl (rv_add rfl rfl) ?_
   refine va rfl rfl ?_
   refine wl_nil ?_
   obtain rfl:=oi h44
   obtain⟨gj0,gj1,gj2⟩:=getI_some hx43
   have hlt0:i18<p0_a.length:=by omega
   have hz0:(marksGHit F p0_a.length p1_k)[i18]? =some ⟨s14.1,w64 (s14.1+(1:Int))⟩:=by unfold marksGHit;rw [List.getElem?_map,List.getElem?_range hlt0,hk0];rfl
   rw [mid_set2 hj0 hml hx43 hz0] at hrowm2
   have hmx0:p0_a.length≤maxLen:=hn0▸hx0
   exact qe_mid' ⟨_,rfl,K18,csm2,i18+1,rfl,hS54,hl19,(w64_rng _),(w64_rng _),(by rw [hj0];exact w64_next (Nat.lt_of_lt_of_le hlt0 hmx0)),hlt0,(by rw [hk0];rfl),hrowm2,hclm2.trans (hclm1.trans hcl0)⟩ ⟨rfl,rfl,rfl,trivial⟩
  ·have h28:=cond_f hb27 h25
   refine wc_exit ?_
   refine qe_then_exit ?_
   refine qe_then_exit ?_
   obtain rfl:=oi h28
   have e55:=hx26 _ rfl
   subst e55
   refine qe_block_eq ?_
   obtain rfl:=oi h17
   have hge0:p0_a.length≤i18:=by have:=of_decide_eq_false hb27;omega
   rw [mid_end hml hge0] at hrow0
   exact qe_mid' ⟨K18,cs18,rfl,hS21,hl19,hr22,hrow0,hcl0⟩ ⟨rfl,trivial⟩
 ·rintro _ w11 ⟨K9,cs9,rfl,hS12,hl10,hr13,hrowF,hclF⟩
  refine qr ?_
  refine vm rfl rfl ?_
  refine va rfl rfl ?_
  refine nq ?_
  refine wc_ret ?_
  obtain rfl:=oi h8
  exact qe_ret (vs:=[_]) Try.results14 ⟨rfl,trivial⟩ ⟨cs9,K9,rfl,hS12,hrowF,hclF,hr13⟩

theorem xc_laws_markHitS (F:Nat){w0 w:World}{K0 K:KMap}{L:List Fk.Item}{a:Option Addr}{n c:Nat}{xs:List GHit}{k r:Int}(h0:Holds K0 w0)(hS:SH w0 K0 [] w K (tail (.slice a n c) 62 tGHit.size::L))(hs:SliceAt tGHit K a n c xs)(hk:rng64 k)(hm:M.laws_markHitS F xs k=some r):
  Calls Try.prog 14 #[.slice a n c,.int .i64 k] w fun e w'=>∃K',e= .returned (.int .i64 r)∧SH w0 K0 [] w' K' (tail (.slice a n c) 62 tGHit.size::L)∧SliceAt tGHit K' a n c (marksGHit F xs.length k)∧KLe (K.but (tail (.slice a n c) 62 tGHit.size).gs) K'∧rng64 r:=by
 refine xmark_call (t:=tGHit) (fun h=>h) h0 hS hs (by unfold marksGHit;rw [List.length_map,List.length_range]) (fun g cs K1 h1 h2=>xm_laws_markHitS F h1 h2 hs.1 (Nat.le_trans hs.2.1 hs.2.2.1) hk hm) fun hn K1 h1=>?_
 have hx:xs=[]:=List.length_eq_zero_iff.1 (hs.1.symm.trans hn)
 subst hx
 exact(ok_laws_markHitS F h1 (SliceAt.nil _ _) hk hm).mono fun e w' ⟨K2,he,h2,hr⟩=>⟨K2,he,h2,hr⟩

theorem ok_laws_markHitSS {B:List Nat}{KM:KMap}{q0:List (List GHit)}{q1:Int}{r:Int}(hS:SH w K Z w K [mkI B KM])(i:SliceAt (tSlice tGHit) (KM.only B) A a b q0)(q:rng64 q1)(hm:M.laws_markHitSS F q0 q1=some r):
  Calls prog 13 #[V3 A a b,V6 q1] w fun e w'=>∃K',e= .returned (V6 r)∧SH w K Z w' K' [mkI B KM]∧rng64 r:=by
 rw [M.laws_markHitSS] at hm
 refine ci func13 u ntmps13 (sr (lv (r_0 u) (nsr (lv (r_0 u) (nq ?_)))))
 obtain⟨k,s,x⟩:=ob hm
 refine wc_cutg (IW w K Z K [(1,V6 k)] [mkI B KM] (rng64 k)) ?_ ?_
 ·refine wc_block ?_
  obtain⟨aj,y,C⟩:=ob s
  refine qw (fun (c:Int×Int)=>IW w K Z K [(0,V3 A a b),(1,V6 c.1),(5,V6 c.2)] [mkI B KM] (rng64 c.1∧rng64 c.2)) y ⟨K,u,hS,kr,q,d_0⟩ ?_
  rintro c _ ak al D G ⟨H,rfl,d,l,m,am⟩
  refine wc_seq (sr (mv u (mv u (lv (rv_len (t:=(tSlice tGHit)) underlying26 u i) (lv (rv_lss u u) (nq (wcc D u (fun I f=>?_) (fun I f=>?_))))))))
  ·refine wc_skip (qs (wc_block (wc_region (mv u (mv u ?_)))))
   obtain⟨an,J,O⟩:=ob f
   refine li underlying26 tf24 i J fun R S ao T U=>?_
   obtain⟨V,W,X,rfl,Y⟩:=T
   have aa:AtK _ R S [V3 V W X]:=U
   refine lv (mk_load tf24 u d (aa 0 _ u)) (mv u ?_)
   obtain⟨ap,ab,ac⟩:=ob O
   refine lk co14 (ok_laws_markHitS F d.e1 Y m ab) ?_
   rintro aq ar ⟨ad,rfl,o,ae⟩
   have af:=(d.c1 o).t1
   refine av u (nb (qe_seq (wc_region (mv u (lv (rv_add u u) (av u (wl_nil ?_)))))))
   cases oi ac
   exact qd ⟨_,u,ad,u,af,(l.trans o.le),ae,(w64_rng _)⟩
  refine wc_exit (qe_then_exit (qe_then_exit ?_))
  cases oi f
  cases G _ u
  refine qe_block_eq ?_
  cases oi C
  exact qd ⟨H,u,d,l,m⟩
 rintro _ au ⟨K9,rfl,ah,aw,ai⟩
 refine qr (mv u (av u (nq (wc_ret ?_))))
 cases oi x
 exact ey results13 ⟨K9,u,ah,ai⟩

theorem ok_laws_heldHitS {q0:List GHit}{q1:Int}{r:Int}(hS:SH w K [] w K [])(o:SliceAt tGHit K A a b q0)(G:rng64 q1)(hm:M.laws_heldHitS F q0 q1=some r):
  Calls prog 15 #[V3 A a b,V6 q1] w (R_i w K r):=by
 rw [M.laws_heldHitS] at hm
 refine ci func15 u ntmps15 (sr (lv (r_0 u) (nsr (lv (r_0 u) (nq ?_)))))
 obtain⟨H,I,d⟩:=ob hm
 refine wc_cutg (fun E' w'=>∃k l,H= .inl k∧E'=[(1,V6 k)]∧SH w K [] w' l []∧KLe K l∧rng64 k) ?_ ?_
 ·refine wc_block ?_
  obtain⟨am,J,q⟩:=ob I
  refine qw (fun (f:Int×Int)=>IW w K [] K [(0,V3 A a b),(1,V6 f.1),(5,V6 f.2)] [] (rng64 f.1∧rng64 f.2)) J ⟨K,u,hS,kr,G,d_0⟩ ?_
  rintro f _ an ao O s ⟨m,rfl,c,i,R,ap⟩
  refine wc_seq (sr (mv u (mv u (lv (rv_len underlying24 u (o.mono i)) (lv (rv_lss u u) (nq (wcc O u (fun S x=>?_) (fun S x=>?_))))))))
  ·refine wc_skip (qs (wc_block (wc_seq (sr (mv u (mv u ?_))))))
   obtain⟨C,T,U⟩:=ob x
   refine li underlying24 tf62 (o.mono i) T fun V W aq X Y=>?_
   obtain⟨rfl,ar,au⟩:=X
   have aa:AtK _ V W [V6 C.Doc,V6 C.Points]:=Y
   refine fa ff62_0 u (lv (rv_load1 tf3 u c (aa 0 _ u)) (mv u (lv (rv_neq u u) (nq (wcc U u (fun ab y=>?_) (fun ab y=>?_))))))
   ·refine sr (lv (rv_assign (v:=V6 (-1)) u) (nq (rr (qe_block_ret (qe_then_ret (qe_then_ret ?_))))))
    cases oi y
    cases s _ u
    refine qe_block_ret (qe_then_ret ?_)
    cases oi q
    refine qe_then_ret ?_
    cases oi d
    exact ey results15 ⟨m,u,c,(by decide :rng64 (-1))⟩
   refine wc_skip (qr (mv u (lv (rv_add u u) (av u (nsr (mv u (mv u ?_)))))))
   obtain⟨D,ac,ad⟩:=ob y
   refine li underlying24 tf62 (o.mono i) ac fun ae af aw ag ah=>?_
   obtain⟨rfl,ax,ay⟩:=ag
   have ai:AtK _ ae af [V6 D.Doc,V6 D.Points]:=ah
   refine fa ff62_1 u (lv (rv_load1 tf3 u c (ai 1 _ u)) (mv u (lv (rv_neq u u) (nq (wcc ad u (fun aj B=>?_) (fun aj B=>?_))))))
   ·refine sr (lv (rv_assign (v:=V6 (-1)) u) (nq (rr (qe_block_ret (qe_then_ret (qe_then_ret ?_))))))
    cases oi B
    cases s _ u
    refine qe_block_ret (qe_then_ret ?_)
    cases oi q
    refine qe_then_ret ?_
    cases oi d
    exact ey results15 ⟨m,u,c,(by decide :rng64 (-1))⟩
   refine wc_skip (qe_seq (wc_region (mv u (lv (rv_add u u) (av u (nb (qe_seq (wc_region (mv u ?_)))))))))
   refine lv (rv_add u u) (av u (wl_nil ?_))
   cases oi B
   exact qd ⟨_,u,m,u,c,i,(w64_rng _),(w64_rng _)⟩
  refine wc_exit (qe_then_exit (qe_then_exit ?_))
  cases oi x
  cases s _ u
  refine qe_block_eq ?_
  cases oi q
  exact qd ⟨_,m,u,u,c,i,R⟩
 rintro _ az ⟨k,l,rfl,rfl,ak,aA,al⟩
 have d:=elim_l d
 refine qr (mv u (av u (nq (wc_ret ?_))))
 cases oi d
 exact ey results15 ⟨l,u,ak,al⟩

theorem ok_laws_FnExactTopMerge {q0:List (List GHit)}{q1:Int}{r:Bool}(hS:SH w K [] w K [])(q:SliceAt (tSlice tGHit) K A a b q0)(H:rng64 q1)(hm:M.laws_FnExactTopMerge F q0 q1=some r):
  Calls prog 3 #[V3 A a b,V6 q1] w (R_b w K r):=by
 rw [M.laws_FnExactTopMerge] at hm
 refine ci func3 u ntmps3 (sr (lv (r_f u) (nr (lv (rv_assign (v:=V6 1048576) u) (nr (mv u (mv u ?_)))))))
 obtain⟨r6,aM,h8⟩:=ob hm
 refine lk co7 (ok_laws_szHitSS F hS.enter0 q (by decide :rng64 1048576) aM) ?_
 rintro bY bZ ⟨K9,rfl,s,ca⟩
 have I:=(hS.c0 s).t0
 refine av u (nsr (mv u (lv (rv_lss u u) (nq (wcc h8 u (fun aP J=>?_) (fun aP J=>?_))))))
 ·refine sr (lv (r_t u) (nq (rr ?_)))
  cases oi J
  exact ey results3 ⟨K9,u,I⟩
 refine wc_skip (qr (mv u ?_))
 obtain⟨cb,aQ,aR⟩:=ob J
 refine lk co9 ((bag_laws_toHitSS F) I.enter0 (q.mono s.le) aQ) ?_
 rintro cc cd ⟨ce,cf,cg,ch,B23,rfl,y,aS⟩
 have aT:=aS.mono only_le
 have an:=(I.c0 y).t1
 refine mv u ?_
 obtain⟨cj,aU,aV⟩:=ob aR
 refine lk co8 (ok_spec_TopMerge F an.enter0 aT H aU) ?_
 rintro ck cl ⟨ao,ap,aq,cm,rfl,B,O⟩
 have x:=(an.c0 B).t1
 refine av u (nr (mv u ?_))
 obtain⟨cn,aW,aX⟩:=ob aV
 refine lk co9 ((bag_laws_toHitSS F) x.enter0 (q.mono ((s.le.trans y.le).trans B.le)) aW) ?_
 rintro cp cq ⟨cr,cs,ct,cu,B49,rfl,c,ar⟩
 have au:=ar.mono only_le
 have C:=(x.c0 c).t2
 refine av u (nr (mv u (mv u ?_)))
 obtain⟨cv,aY,aZ⟩:=ob aX
 refine lk co10 (ok_impl_TopMerge F C.enter0 au H aY) ?_
 rintro cw cx ⟨R,S,T,cy,rfl,f,aw⟩
 have ax:=(C.c0 f).t3
 refine av u (nsr (mv u (mv u ?_)))
 obtain⟨cz,ba,bb⟩:=ob aZ
 refine lk co11 (ok_laws_eqHitS F ax.enter0 aw (O.mono (c.le.trans f.le)) ba) ?_
 rintro cA cB ⟨bc,rfl,i⟩
 have U:=(ax.c0 i).t3
 refine lv (rv_not u) (nq (wcc bb u (fun bd V=>?_) (fun bd V=>?_)))
 ·refine sr (lv (r_f u) (nq (rr ?_)))
  cases oi V
  exact ey results3 ⟨bc,u,U.s⟩
 refine wc_skip (qs (sr (mv u (mv u ?_))))
 obtain⟨cC,be,bf⟩:=ob V
 refine lk co9 ((bag_laws_toHitSS F) U.enter0 (SliceAt.mono (((((s.le.trans y.le).trans B.le).trans c.le).trans f.le).trans i.le) q) be) ?_
 rintro cD cE ⟨cF,cG,cH,cI,B86,rfl,k,ay⟩
 have bg:=ay.mono only_le
 have az:=(U.c0 k).t4
 obtain⟨cJ,bh,bi⟩:=ob bf
 refine lk co12 (ok_laws_eqHitSS F az.enter0 (au.mono ((f.le.trans i.le).trans k.le)) bg bh) ?_
 rintro cK cL ⟨bj,rfl,l⟩
 have aA:=(az.c0 l).t4
 refine lv (rv_not u) (nq (wcc bi u (fun bk W=>?_) (fun bk W=>?_)))
 ·refine sr (lv (r_f u) (nq (rr ?_)))
  cases oi W
  exact ey results3 ⟨bj,u,aA.s⟩
 refine wc_skip (qr (lv (rv_assign (v:=V6 1) u) (nr (mv u (mv u ?_)))))
 obtain⟨cM,bl,bm⟩:=ob W
 have X:=aA.f2.f2.f1
 have aB:=SH.flat_but (t:=tGHit) (fun h=>h) X (aw.mono ((i.le.trans k.le).trans l.le))
 have hd112: ∀b∈B86,b∉B49:=SH.bag_off X _ m1
 have bn:=SliceAt.mono (only_but2 hd112) (ay.mono (only_mono l.le fun _ h=>h))
 have cN:=bn.mono only_le
 have hM115:=SH.toMk hS.holds X
 refine lk co13 (ok_laws_markHitSS F hM115.e1 (SliceAt.mono (only_mono (((f.le.trans i.le).trans k.le).trans l.le) fun _ h=>h) ar) (by decide :rng64 1) bl) ?_
 rintro cO cP ⟨aC,rfl,m,cQ⟩
 have Y:SH _ _ _ _ _ [_,_,_]:=SH.drop (SH.call (Lin:=[_]) hM115 m)
 refine av u (ns (wc_seq ?_))
 obtain⟨bo,bp,bq⟩:=ob bm
 refine wc_cutg (IV w K [] aC [(0,V3 A a b),(1,V6 q1),(6,V3 ao ap aq),(8,V3 R S T),(46,.bool bo)] [tail (V3 R S T) 62 2,bag B86,bag B23]) ?_ ?_
 ·refine wc_region (mv u (lv (rv_lss u u) (mv u (bt bp (fun d aa=>?_) (fun d aa=>?_)))))
  ·refine lu d (lu d (lu d (lu d (lv (p_t u d u) (wl_nil ?_)))))
   cases oi aa
   exact qd ⟨aC,u,Y,kr⟩
  refine lg d (rv_move u) (lg d (rv_move u) ?_)
  obtain⟨cR,br,bs⟩:=ob aa
  refine wl_call (wg u u d) u (rt_call (vs:=[V3 R S T,V3 ao ap aq]) co11 u) (ok_laws_eqHitS F Y.enter0 (aB.mono m.le) (SliceAt.mono ((le_but ((((c.le.trans f.le).trans i.le).trans k.le).trans l.le) x.holds fun b hb=>(c.bag_new b hb).1).trans m.le) O) br) ?_
  rintro cS cT ⟨bu,rfl,aD⟩
  refine⟨_,u,?_⟩
  have bv:=(Y.c0 aD).t3
  refine lg d (rv_not u) (lv (rv_pick_f u d u) (wl_nil ?_))
  cases oi bs
  exact qd ⟨bu,u,bv,aD.le⟩
 rintro _ cU ⟨bx,rfl,aE,ab⟩
 refine qe_seq (wcc bq u (fun bz ac=>?_) (fun bz ac=>?_))
 ·refine sr (lv (r_f u) (nq (rr ?_)))
  cases oi ac
  exact ey results3 ⟨bx,u,aE.s⟩
 refine wc_skip (qr (lv (rv_assign (v:=V6 1) u) (nr (mv u (mv u ?_)))))
 obtain⟨cV,bA,bB⟩:=ob ac
 refine lk co14 ((xc_laws_markHitS F) hS.holds aE (aB.mono (m.le.trans ab)) (by decide :rng64 1) bA) ?_
 rintro cW cX ⟨cY,rfl,bC,aF,aG,cZ⟩
 have aH:SH _ _ _ _ _ [_,_,_]:=bC
 refine av u (nr (lv (rv_assign (v:=V6 1) u) (nr (mv u (mv u ?_)))))
 obtain⟨da,bD,bE⟩:=ob bB
 refine lk co15 (ok_laws_heldHitS F aH.enter0 aF (by decide :rng64 1) bD) ?_
 rintro db dc ⟨aI,rfl,D,dd⟩
 have G:=(aH.c0 D).t3
 refine av u (nsr (mv u (lv (rv_lss u u) (nq (wcc bE u (fun bF ad=>?_) (fun bF ad=>?_))))))
 ·refine sr (lv (r_f u) (nq (rr ?_)))
  cases oi ad
  exact ey results3 ⟨aI,u,G.s⟩
 refine wc_skip (qs (sr (mv u (mv u (lv (rv_neq u u) (nq (wcc ad u (fun bG ae=>?_) (fun bG ae=>?_))))))))
 ·refine sr (lv (r_f u) (nq (rr ?_)))
  cases oi ae
  exact ey results3 ⟨aI,u,G.s⟩
 refine wc_skip (qr (mv u ?_))
 obtain⟨de,bH,bI⟩:=ob ae
 refine lk co9 ((bag_laws_toHitSS F) G.enter0 (SliceAt.mono (((((s.le.trans y.le).trans B.le).trans (le_but (((le_but ((((c.le.trans f.le).trans i.le).trans k.le).trans l.le) x.holds fun b hb=>(c.bag_new b hb).1).trans m.le).trans ab) (fun b o v e=>C.holds b o v (c.le b o v e)) (SH.tail_new f))).trans aG).trans D.le) q) bH) ?_
 rintro df dg ⟨dh,di,dj,dk,B174,rfl,af,bJ⟩
 have bK:=bJ.mono only_le
 have aJ:=(G.c0 af).t4
 refine mv u ?_
 obtain⟨dl,bL,bM⟩:=ob bI
 refine lk co10 (ok_impl_TopMerge F aJ.enter0 bK H bL) ?_
 rintro dm dn ⟨dp,dq,dr,ds,rfl,ag,bN⟩
 have aK:=(aJ.c0 ag).t5
 refine av u (nsr (mv u (mv u ?_)))
 obtain⟨dt,bO,bP⟩:=ob bM
 refine lk co11 (ok_laws_eqHitS F aK.enter0 bN (SliceAt.mono (((((le_but (((le_but ((((c.le.trans f.le).trans i.le).trans k.le).trans l.le) x.holds fun b hb=>(c.bag_new b hb).1).trans m.le).trans ab) (fun b o v e=>C.holds b o v (c.le b o v e)) (SH.tail_new f)).trans aG).trans D.le).trans af.le).trans ag.le) O) bO) ?_
 rintro du dv ⟨bQ,rfl,aL⟩
 have ah:=(aK.c0 aL).t5
 refine lv (rv_not u) (nq (wcc bP u (fun bR ai=>?_) (fun bR ai=>?_)))
 ·refine sr (lv (r_f u) (nq (rr ?_)))
  cases oi ai
  exact ey results3 ⟨bQ,u,ah.s⟩
 refine wc_skip (qr (lv (rv_assign (v:=V6 1) u) (nr (mv u (mv u ?_)))))
 obtain⟨dw,bS,bT⟩:=ob ai
 refine lk co15 (ok_laws_heldHitS F ah.enter0 (SliceAt.mono (((D.le.trans af.le).trans ag.le).trans aL.le) aF) (by decide :rng64 1) bS) ?_
 rintro dx dy ⟨aj,rfl,bU,dz⟩
 have ak:=(ah.c0 bU).t5
 refine av u (nsr (mv u (lv (rv_lss u u) (nq (wcc bT u (fun bV al=>?_) (fun bV al=>?_))))))
 ·refine sr (lv (r_f u) (nq (rr ?_)))
  cases oi al
  exact ey results3 ⟨aj,u,ak.s⟩
 refine wc_skip (qs (sr (mv u (mv u (lv (rv_neq u u) (nq (wcc al u (fun bW am=>?_) (fun bW am=>?_))))))))
 ·refine sr (lv (r_f u) (nq (rr ?_)))
  cases oi am
  exact ey results3 ⟨aj,u,ak.s⟩
 refine wc_skip (qr (lv (r_t u) (nq (wc_ret ?_))))
 cases oi am
 exact ey results3 ⟨aj,u,ak.s⟩
end Go.Proofs.Ytepcfgnicnibnaa
