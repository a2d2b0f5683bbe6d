/-
 Walks of the functions. Printed by gen.py.
-/
import Derived.Test.YtepcfgnicnibnaaFacts
set_option linter.unusedVariables false
set_option linter.unusedSectionVars false
set_option maxRecDepth 100000
namespace Go.Proofs.Ytepcfgnicnibnaa
set_option maxHeartbeats 4000000
open Go Go.Fk Go.RowKit Try
variable (F:Nat){w:World}{K:KMap}{Z:List Nat}{g1 g2 g3:Nat}{A B C D G H I J O R S T:Option Addr}{a b c d f i k l m n o p q s v x y aa ab ac ad ae af ag:Nat}
variable [dr:Dr]

theorem ok_laws_szHitS {q0:List GHit}{q1:Int}{r:Int}(hS:SH w K [] w K [])(f:SliceAt tGHit K A a b q0)(i:rng64 q1)(hm:M.laws_szHitS F q0 q1=some r):
  Calls prog 37 #[V3 A a b,V6 q1] w (R_i w K r):=by
 rw [M.laws_szHitS] at hm
 refine ci func37 u ntmps37 (sr (lv (r_0 u) (nr (mv u (mv u (lv (rv_len underlying56 u f) (lv (rv_sub u u) (av u (nsr ?_)))))))))
 refine mv u (lv (rv_lss u u) (nq (wc_cond u (fun c=>?_) (fun c=>?_))))
 ·have d:=cond_t c hm
  refine sr (lv (rv_assign (v:=V6 (-1)) u) (nq (rr ?_)))
  cases oi d
  exact ey results37 ⟨K,u,hS,(by decide :rng64 (-1))⟩
 have d:=cond_f c hm
 refine wc_skip (qr (mv u (av u (nq (wc_ret ?_)))))
 cases oi d
 exact ey results37 ⟨K,u,hS,(w64_rng _)⟩

theorem ok_laws_szHitSS {q0:List (List GHit)}{q1:Int}{r:Int}(hS:SH w K [] w K [])(m:SliceAt (tSlice tGHit) K A a b q0)(am:rng64 q1)(hm:M.laws_szHitSS F q0 q1=some r):
  Calls prog 7 #[V3 A a b,V6 q1] w (R_i w K r):=by
 rw [M.laws_szHitSS] at hm
 refine ci func7 u ntmps7 (sr (lv (r_0 u) (nr (mv u (mv u (lv (rv_len (t:=(tSlice tGHit)) underlying22 u m) (lv (rv_sub u u) (av u (nsr ?_)))))))))
 refine mv u (lv (rv_lss u u) (nq (wc_cond u (fun o=>?_) (fun o=>?_))))
 ·have q:=cond_t o hm
  refine sr (lv (rv_assign (v:=V6 (-1)) u) (nq (rr ?_)))
  cases oi q
  exact ey results7 ⟨K,u,hS,(by decide :rng64 (-1))⟩
 have q:=cond_f o hm
 refine wc_skip (qs (sr (lv (r_0 u) (nq ?_))))
 obtain⟨I,J,d⟩:=ob q
 refine wc_cutg (fun E' w'=>∃f i,I= .inl f∧E'=[(1,V6 f)]∧SH w K [] w' i []∧KLe K i∧rng64 f) ?_ ?_
 ·refine wc_block ?_
  obtain⟨an,O,y⟩:=ob J
  refine qw (fun (c:Int×Int)=>IW w K [] K [(0,V3 A a b),(1,V6 c.1),(5,V6 c.2)] [] (rng64 c.1∧rng64 c.2)) O ⟨K,u,hS,kr,(w64_rng _),d_0⟩ ?_
  rintro c _ ao ap R B ⟨S,rfl,k,l,C,aq⟩
  refine wc_seq (sr (mv u (mv u (lv (rv_len (t:=(tSlice tGHit)) underlying22 u (m.mono l)) (lv (rv_lss u u) (nq (wcc R u (fun T s=>?_) (fun T s=>?_))))))))
  ·refine wc_skip (qs (wc_block (sr (mv u (mv u ?_)))))
   obtain⟨ar,U,V⟩:=ob s
   refine li underlying22 tf56 (m.mono l) U fun W X au Y aa=>?_
   obtain⟨ab,ac,ad,rfl,ae⟩:=Y
   have af:AtK _ W X [V3 ab ac ad]:=aa
   refine lv (rv_load1 tf56 u k (af 0 _ u)) (mv u ?_)
   obtain⟨aw,ag,ah⟩:=ob V
   refine lk co37 (ok_laws_szHitS F k.enter0 ae C ag) ?_
   rintro ax ay ⟨D,rfl,G,ai⟩
   have H:=(k.c0 G).t0
   refine av u (nr (mv u (lv (rv_lss u u) (nq (wcc ah u (fun aj x=>?_) (fun aj x=>?_))))))
   ·refine sr (lv (rv_assign (v:=V6 (-1)) u) (nq (wc_ret (qe_block_ret (qe_then_ret (qe_then_ret ?_))))))
    cases oi x
    cases B _ u
    refine qe_block_ret (qe_then_ret ?_)
    cases oi y
    refine qe_then_ret ?_
    cases oi d
    exact ey results7 ⟨D,u,H,(by decide :rng64 (-1))⟩
   refine wc_skip (qe_block (qe_seq (wc_region (mv u (lv (rv_add u u) (av u (wl_nil ?_)))))))
   cases oi x
   exact qd ⟨_,u,D,u,H,(l.trans G.le),ai,(w64_rng _)⟩
  refine wc_exit (qe_then_exit (qe_then_exit ?_))
  cases oi s
  cases B _ u
  refine qe_block_eq ?_
  cases oi y
  exact qd ⟨_,S,u,u,k,l,C⟩
 rintro _ az ⟨f,i,rfl,rfl,ak,aA,al⟩
 have d:=elim_l d
 refine qr (mv u (av u (nq (wc_ret ?_))))
 cases oi d
 exact ey results7 ⟨i,u,ak,al⟩

theorem ok_spec_l1In {q0:Int}{q1:Int}{q2:Int}{r:Bool}(hS:SH w K [] w K [])(c:rng64 q0)(d:rng64 q1)(f:rng64 q2)(hm:M.spec_l1In F q0 q1 q2=some r):
  Calls prog 38 #[V6 q0,V6 q1,V6 q2] w (R_b w K r):=by
 rw [M.spec_l1In] at hm
 refine ci func38 u ntmps38 (sr (lv (r_f u) (nr (mv u (mv u (lv (rv_geq u u) (mv u (bt hm (fun a b=>?_) (fun a b=>?_)))))))))
 ·refine lg a (rv_move u) (lg a (rv_move u) (lg a (rv_leq u u) (lv (rv_pick_t u a u) (av u (nq (wc_ret ?_))))))
  cases oi b
  exact ey results38 ⟨K,u,hS⟩
 refine lu a (lu a (lu a (lv (p_f u a u) (av u (nq (wc_ret ?_))))))
 cases oi b
 exact ey results38 ⟨K,u,hS⟩

theorem ok_spec_l13Less {q0:GHit}{q1:GHit}{r:Bool}(hS:SH w K [] w K [])(q:rng64 q0.Doc)(s:rng64 q0.Points)(x:rng64 q1.Doc)(y:rng64 q1.Points)(hm:M.spec_l13Less F q0 q1=some r):
  Calls prog 75 #[.agg #[V6 q0.Doc,V6 q0.Points],.agg #[V6 q1.Doc,V6 q1.Points]] w (R_b w K r):=by
 rw [M.spec_l13Less] at hm
 refine ci func75 u ntmps75 (sr (bx u hS fun i A k=>?_))
 have l:SH _ _ _ _ _ [obj i [V6 q0.Doc,V6 q0.Points] 62]:=k
 refine bx u l fun m B o=>?_
 have b:SH _ _ _ _ _ [obj m [V6 q1.Doc,V6 q1.Points] 62,_]:=o
 refine lv (r_f u) (nr (fl ff62_1 u tf3 m1 b u (fl ff62_1 u tf3 m0 b u (lv (rv_gtr u u) (mv u (bt hm (fun a d=>?_) (fun a d=>?_)))))))
 ·iterate 6 refine lu a ?_
  refine wl_un (uu u u) u (wl_un (uu u u) u (wl_un (uu u u) u (wl_un (uu u u) u (wl_un (uu u u) u (lu a (lv (p_t u a u) (av u (nq (wc_ret ?_)))))))))
  cases oi d
  exact ey results75 ⟨K,u,b.s⟩
 refine lg a (rv_fieldAddr ff62_1 u) (lg a (rv_loadm1 tf3 u m1 b u) (lg a (rv_fieldAddr ff62_1 u) (lg a (rv_loadm1 tf3 u m0 b u) (lg a (rv_eql u u) (lg a (rv_move u) (bt d (fun c f=>?_) (fun c f=>?_)))))))
 ·refine lg c (rv_fieldAddr ff62_0 u) (lg c (rv_loadm1 tf3 u m1 b u) (lg c (rv_fieldAddr ff62_0 u) (lg c (rv_loadm1 tf3 u m0 b u) (lg c (rv_lss u u) (lg a (rv_pick_t u c u) (lv (rv_pick_f u a u) (av u (nq (wc_ret ?_)))))))))
  cases oi f
  exact ey results75 ⟨K,u,b.s⟩
 iterate 5 refine lu c ?_
 refine lg a (p_f u c u) (lv (rv_pick_f u a u) (av u (nq (wc_ret ?_))))
 cases oi f
 exact ey results75 ⟨K,u,b.s⟩

theorem ok_spec_l13Ok {q0:List GHit}{r:Bool}(hS:SH w K [] w K [])(k:SliceAt tGHit K A a b q0)(hm:M.spec_l13Ok F q0=some r):
  Calls prog 39 #[V3 A a b] w (R_b w K r):=by
 rw [M.spec_l13Ok] at hm
 refine ci func39 u ntmps39 (sr (lv (r_f u) (nsr (lv (r_0 u) (nq ?_)))))
 obtain⟨o5,h6,m⟩:=ob hm
 refine wc_cutg (IE o5 w K [] K [(0,V3 A a b)] []) ?_ ?_
 ·refine wc_block ?_
  obtain⟨bX,aj,x⟩:=ob h6
  refine qw (fun (l:Int)=>IW w K [] K [(0,V3 A a b),(3,V6 l)] [] (rng64 l)) aj ⟨K,u,hS,kr,d_0⟩ ?_
  rintro l _ bY bZ ak y ⟨S,rfl,T,i,ca⟩
  refine wc_seq (sr (mv u (mv u (lv (rv_len underlying24 u (k.mono i)) (lv (rv_lss u u) (nq (wcc ak u (fun al B=>?_) (fun al B=>?_))))))))
  ·refine wc_skip (qs (wc_block (wc_seq (wc_seq ?_))))
   obtain⟨am,an,ao⟩:=ob B
   refine wc_cutg (IV w K [] S [(0,V3 A a b),(3,V6 l),(42,.bool am)] []) ?_ ?_
   ·refine wc_quiet mixed (by kernel_rfl) T (km u (km u ?_))
    obtain⟨U,ap,aq⟩:=ob an
    refine ki underlying24 tf62 (k.mono i) ap fun ar au cb aw ax=>?_
    obtain⟨rfl,ay,cc⟩:=aw
    have az:AtK _ ar au [V6 U.Doc,V6 U.Points]:=ax
    refine kv (rv_fieldAddr ff62_0 u) (kh (rq_load1 tf3 u (az 0 _ u)) ?_)
    obtain⟨cd,aA,aB⟩:=ob aq
    refine kc co38 (fun _ _ aC ce=>(ok_spec_l1In F) aC.enter0 ay (by decide :rng64 1) (by decide :rng64 9999) aA) (kv (rv_not u) (km u (bt aB (fun f C=>?_) (fun f C=>?_))))
    ·iterate 6 refine kn f ?_
     refine kv (p_t u f u) (km u (qv u u u u (qv u u u u (qv u u u u ?_))))
     iterate 11 refine ku ?_
     refine qv u u u u (kv (p_t u u u) (wq_nil ?_))
     rintro cf ⟨aD,aE,aF⟩
     cases oi C
     exact qd ⟨aD,u,aE,aF⟩
    refine kg f (rv_move u) (kg f (rv_move u) ?_)
    obtain⟨V,aG,aH⟩:=ob C
    refine wq_indexAddr (t:=tGHit) (wg u u f) u underlying24 tf62 u u (k.mono i) aG fun aI aJ cg aK aL=>?_
    obtain⟨rfl,ch,cj⟩:=aK
    have aM:AtK _ aI aJ [V6 V.Doc,V6 V.Points]:=aL
    refine kg f (rv_fieldAddr ff62_1 u) (kgh f (rq_load1 tf3 u (aM 1 _ u)) (kg f (rv_lss u u) (kv (rv_pick_f u f u) (km u (bt aH (fun d D=>?_) (fun d D=>?_))))))
    ·refine kn d (kn d (kn d ?_))
     iterate 11 refine ku ?_
     refine kn d (kv (p_t u d u) (wq_nil ?_))
     rintro ck ⟨aN,aO,aP⟩
     cases oi D
     exact qd ⟨aN,u,aO,aP⟩
    refine kg d (rv_move u) (kg d (rv_gtr u u) (kg d (rv_move u) (bt D (fun c G=>?_) (fun c G=>?_))))
    ·refine kg c (rv_move u) (kg c (rv_move u) (kg c (rv_sub u u) ?_))
     obtain⟨W,aQ,aR⟩:=ob G
     refine wq_indexAddr (t:=tGHit) (wg u u c) u underlying24 tf62 u u (k.mono i) aQ fun aS aT cl aU aV=>?_
     obtain⟨rfl,aW,aX⟩:=aU
     have aY:AtK _ aS aT [V6 W.Doc,V6 W.Points]:=aV
     refine kgh c (rq_loadS tf62 u aY u) (kg c (rv_move u) (kg c (rv_move u) ?_))
     obtain⟨X,aZ,ba⟩:=ob aR
     refine wq_indexAddr (t:=tGHit) (wg u u c) u underlying24 tf62 u u (k.mono i) aZ fun bb bc cm bd be=>?_
     obtain⟨rfl,bf,bg⟩:=bd
     have bh:AtK _ bb bc [V6 X.Doc,V6 X.Points]:=be
     refine kgh c (rq_loadS tf62 u bh u) ?_
     obtain⟨cn,bi,bj⟩:=ob ba
     refine kcg c co75 (fun _ _ bk cp=>(ok_spec_l13Less F) bk.enter0 aW aX bf bg bi) (kg c (rv_not u) (kg d (rv_pick_t u c u) (kv (rv_pick_f u d u) (wq_nil ?_))))
     rintro cq ⟨bl,bm,bn⟩
     cases oi bj
     exact qd ⟨bl,u,bm,bn⟩
    iterate 11 refine kn c ?_
    refine kg d (p_f u c u) (kv (rv_pick_f u d u) (wq_nil ?_))
    rintro cr ⟨bo,bp,bq⟩
    cases oi G
    exact qd ⟨bo,u,bp,bq⟩
   rintro _ cs ⟨o,rfl,Y,H⟩
   refine qe_seq (wcc ao u (fun br I=>?_) (fun br I=>?_))
   ·refine sr (lv (r_f u) (nq (rr (qe_block_ret (qe_then_ret (qe_then_ret ?_))))))
    cases oi I
    cases y _ u
    refine qe_block_ret (qe_then_ret ?_)
    cases oi x
    refine qe_then_ret ?_
    cases oi m
    exact ey results39 ⟨o,u,Y⟩
   refine wc_skip (qr (lv (r_0 u) (nq ?_)))
   obtain⟨bs,bu,q⟩:=ob I
   refine wc_cutg (IE bs w K [] o [(0,V3 A a b),(3,V6 l)] []) ?_ ?_
   ·refine wc_block ?_
    obtain⟨ct,bv,aa⟩:=ob bu
    refine qw (fun (J:Int)=>IW w K [] o [(0,V3 A a b),(3,V6 l),(4,V6 J)] [] (rng64 J)) bv ⟨o,u,Y,kr,d_0⟩ ?_
    rintro J _ cu cv bx ab ⟨bz,rfl,ac,s,cw⟩
    refine wc_seq (sr (mv u (mv u (lv (rv_lss u u) (nq (wcc bx u (fun bA O=>?_) (fun bA O=>?_)))))))
    ·refine wc_skip (qs (wc_block (wc_seq (wc_quiet mixed (by kernel_rfl) ac (km u (km u ?_))))))
     obtain⟨ad,bB,bC⟩:=ob O
     refine ki underlying24 tf62 (k.mono ((i.trans H).trans s)) bB fun bD bE cx bF bG=>?_
     obtain⟨rfl,cy,cz⟩:=bF
     have bH:AtK _ bD bE [V6 ad.Doc,V6 ad.Points]:=bG
     refine kv (rv_fieldAddr ff62_0 u) (kh (rq_load1 tf3 u (bH 0 _ u)) (km u (km u ?_)))
     obtain⟨ae,bI,bJ⟩:=ob bC
     refine ki underlying24 tf62 (k.mono ((i.trans H).trans s)) bI fun bK bL cA bM bN=>?_
     obtain⟨rfl,cB,cC⟩:=bM
     have bO:AtK _ bK bL [V6 ae.Doc,V6 ae.Points]:=bN
     refine kv (rv_fieldAddr ff62_0 u) (kh (rq_load1 tf3 u (bO 0 _ u)) (kv (rv_eql u u) (wq_nil ?_)))
     rintro cD ⟨af,ag,bP⟩
     refine qe_seq (wcc bJ u (fun bQ R=>?_) (fun bQ R=>?_))
     ·refine sr (lv (r_f u) (nq (wc_ret (qe_block_ret (qe_then_ret (qe_then_ret ?_))))))
      cases oi R
      cases ab _ u
      refine qe_block_ret (qe_then_ret ?_)
      cases oi aa
      refine qe_block_ret (qe_then_ret (qe_then_ret ?_))
      cases oi q
      cases y _ u
      refine qe_block_ret (qe_then_ret ?_)
      cases oi x
      refine qe_then_ret ?_
      cases oi m
      exact ey results39 ⟨af,u,ag⟩
     refine wc_skip (qe_block (qe_seq (wc_region (mv u (lv (rv_add u u) (av u (wl_nil ?_)))))))
     cases oi R
     exact qd ⟨_,u,af,u,ag,(s.trans bP),(w64_rng _)⟩
    refine wc_exit (qe_then_exit (qe_then_exit ?_))
    cases oi O
    cases ab _ u
    refine qe_block_eq ?_
    cases oi aa
    exact qd ⟨_,bz,u,u,ac,s⟩
   rintro _ cE ⟨cF,bR,rfl,rfl,bS,bT⟩
   have q:=elim_l q
   refine qe_block (qe_seq (wc_region (mv u (lv (rv_add u u) (av u (wl_nil ?_))))))
   cases oi q
   exact qd ⟨_,u,bR,u,bS,((i.trans H).trans bT),(w64_rng _)⟩
  refine wc_exit (qe_then_exit (qe_then_exit ?_))
  cases oi B
  cases y _ u
  refine qe_block_eq ?_
  cases oi x
  exact qd ⟨_,S,u,u,T,i⟩
 rintro _ cG ⟨s8,K9,rfl,rfl,bV,bW⟩
 have m:=elim_l m
 refine qr (mv u (lv (rv_len underlying24 u (k.mono bW)) (lv (rv_leq u u) (av u (nq (wc_ret ?_))))))
 cases oi m
 exact ey results39 ⟨K9,u,bV⟩

theorem ok_spec_l8Has {q0:List Int}{q1:Int}{r:Bool}(hS:SH w K [] w K [])(o:SliceAt tInt K A a b q0)(X:rng64 q1)(hm:M.spec_l8Has F q0 q1=some r):
  Calls prog 40 #[V3 A a b,V6 q1] w (R_b w K r):=by
 rw [M.spec_l8Has] at hm
 refine ci func40 u ntmps40 (sr (lv (r_f u) (nsr (lv (r_0 u) (nq ?_)))))
 obtain⟨x,y,c⟩:=ob hm
 refine wc_cutg (IE x w K [] K [] []) ?_ ?_
 ·refine wc_block ?_
  obtain⟨Y,B,q⟩:=ob y
  refine qw (fun (i:Int)=>IW w K [] K [(0,V3 A a b),(1,V6 q1),(5,V6 i)] [] (rng64 i)) B ⟨K,u,hS,kr,d_0⟩ ?_
  rintro i _ aa ab C s ⟨k,rfl,d,f,ac⟩
  refine wc_seq (sr (mv u (mv u (lv (rv_len underlying57 u (o.mono f)) (lv (rv_lss u u) (nq (wcc C u (fun D l=>?_) (fun D l=>?_))))))))
  ·refine wc_skip (qs (wc_block (sr (mv u (mv u ?_)))))
   obtain⟨G,H,I⟩:=ob l
   refine li underlying57 tf3 (o.mono f) H fun J O ad R S=>?_
   obtain⟨rfl,ae⟩:=R
   have T:AtK _ J O [V6 G]:=S
   refine lv (rv_load1 tf3 u d (T 0 _ u)) (mv u (lv (rv_eql u u) (nq (wcc I u (fun U m=>?_) (fun U m=>?_)))))
   ·refine sr (lv (r_t u) (nq (wc_ret (qe_block_ret (qe_then_ret (qe_then_ret ?_))))))
    cases oi m
    cases s _ u
    refine qe_block_ret (qe_then_ret ?_)
    cases oi q
    refine qe_then_ret ?_
    cases oi c
    exact ey results40 ⟨k,u,d⟩
   refine wc_skip (qe_block (qe_seq (wc_region (mv u (lv (rv_add u u) (av u (wl_nil ?_)))))))
   cases oi m
   exact qd ⟨_,u,k,u,d,f,(w64_rng _)⟩
  refine wc_exit (qe_then_exit (qe_then_exit ?_))
  cases oi l
  cases s _ u
  refine qe_block_eq ?_
  cases oi q
  exact qe_mid' ⟨_,k,u,u,d,f⟩ trivial
 rintro _ af ⟨s9,V,rfl,rfl,W,ah⟩
 have c:=elim_l c
 refine qr (lv (r_f u) (nq (wc_ret ?_)))
 cases oi c
 exact ey results40 ⟨V,u,W⟩

theorem ok_spec_l13Push {q0:List GHit}{q1:GHit}{q2:Int}{r:(List GHit)}(hS:SH w K [] w K [])(f:SliceAt tGHit K A a b q0)(s:rng64 q1.Doc)(x:rng64 q1.Points)(bk:rng64 q2)(hm:M.spec_l13Push F q0 q1 q2=some r):
  Calls prog 41 #[V3 A a b,.agg #[V6 q1.Doc,V6 q1.Points],V6 q2] w fun e w'=>∃a_1 n_2 c_3 K',e= .returned (V3 a_1 n_2 c_3)∧SH w K [] w' K' []∧SliceAt tGHit K' a_1 n_2 c_3 r:=by
 rw [M.spec_l13Push] at hm
 refine ci func41 u ntmps41 (sr (bx u hS fun d w9 T=>?_))
 have U:SH _ _ _ _ _ [obj d [V6 q1.Doc,V6 q1.Points] 62]:=T
 refine lv (r_n u) (nr (lv (r_0 u) (ns ?_)))
 obtain⟨y,V,W⟩:=ob hm
 refine wc_cutg (IW w K [] K [(0,V3 A a b),(2,V6 q2),(4,pt d),(7,V6 y)] [obj d [V6 q1.Doc,V6 q1.Points] 62] (rng64 y)) ?_ ?_
 ·refine wc_block ?_
  obtain⟨bm,X,Y⟩:=ob V
  refine qw (fun (i:Int)=>IW w K [] K [(0,V3 A a b),(2,V6 q2),(4,pt d),(7,V6 i)] [obj d [V6 q1.Doc,V6 q1.Points] 62] (rng64 i)) X ⟨K,u,U,kr,d_0⟩ ?_
  rintro i _ bn bo aa ab ⟨ac,rfl,ad,k,ae⟩
  refine wc_seq (wc_seq ?_)
  obtain⟨af,ag,ah⟩:=ob aa
  refine wc_cutg (IV w K [] ac [(0,V3 A a b),(2,V6 q2),(4,pt d),(7,V6 i),(20,.bool af)] [obj d [V6 q1.Doc,V6 q1.Points] 62]) ?_ ?_
  ·refine wc_quiet mixed (by kernel_rfl) ad (km u (km u (kv (rv_len underlying24 u (f.mono k)) (kv (rv_lss u u) (km u (bt ag (fun c l=>?_) (fun c l=>?_)))))))
   ·refine kg c (rv_move u) (kg c (rv_move u) ?_)
    obtain⟨B,ai,aj⟩:=ob l
    refine wq_indexAddr (t:=tGHit) (wg u u c) u underlying24 tf62 u u (f.mono k) ai fun ak al bp am an=>?_
    obtain⟨rfl,ao,ap⟩:=am
    have aq:AtK _ ak al [V6 B.Doc,V6 B.Points]:=an
    refine kgh c (rq_loadS tf62 u aq u) (kgh c (rq_loadmS (ds:=[V6 q1.Doc,V6 q1.Points]) tf62 u m0 u u) ?_)
    obtain⟨bq,ar,au⟩:=ob aj
    refine kcg c co75 (fun _ _ aw br=>(ok_spec_l13Less F) aw.enter0 ao ap s x ar) (kv (rv_pick_t u c u) (wq_nil ?_))
    rintro bs ⟨ax,ay,az⟩
    cases oi au
    exact qd ⟨ax,u,ay,az⟩
   iterate 6 refine kn c ?_
   refine kv (p_f u c u) (wq_nil ?_)
   rintro bu ⟨aA,aB,aC⟩
   cases oi l
   exact qd ⟨aA,u,aB,aC⟩
  rintro _ bv ⟨C,rfl,D,G⟩
  refine qe_seq (wcc ah u (fun aD m=>?_) (fun aD m=>?_))
  ·refine wc_skip (qe_seq (wc_block (wc_region (mv u (lv (rv_add u u) (av u (nb ?_)))))))
   cases oi m
   exact qd ⟨_,u,C,u,D,(k.trans G),(w64_rng _)⟩
  refine wc_exit (qe_then_exit (qe_then_exit ?_))
  cases oi m
  cases ab _ u
  refine qe_block_eq ?_
  cases oi Y
  exact qd ⟨C,u,D,(k.trans G),ae⟩
 rintro _ bz ⟨bA,rfl,aE,H,bB⟩
 refine qr (b0 tGHit underlying24 tf62 aE fun bC bD bE I aF aG=>(mv u (mv u ?_)))
 obtain⟨bF,aH,aI⟩:=ob W
 refine wl_sl_h (t:=tGHit) wn u underlying24 tf62 u u (f.mono (H.trans I)) aH fun bG bH bI aJ=>?_
 obtain⟨bJ,aK,aL⟩:=ob aI
 refine lp underlying24 tf62 aF aJ aK aG fun bK bL bM bN bO aM aN J=>(av u (nr (mv u (lv (rv_loadmS (ds:=[V6 q1.Doc,V6 q1.Points]) tf62 u m1 J u u) (lb tGHit (.agg #[V6 q1.Doc,V6 q1.Points]) [V6 q1.Doc,V6 q1.Points] q1 underlying24 tf62 ⟨u,s,x⟩ J fun bP bQ bR O aO aP=>?_)))))
 obtain⟨bS,aQ,aR⟩:=ob aL
 refine lp underlying24 tf62 (aN.mono O) aO aQ aP.f1 fun bT bU bV bW bX aS aT aU=>(av u (nr (mv u (mv u (mv u ?_)))))
 obtain⟨bY,aV,aW⟩:=ob aR
 refine wl_sl_l (t:=tGHit) wn u underlying24 tf62 u u (SliceAt.mono ((((H.trans I).trans aM).trans O).trans aS) f) aV fun bZ ca cb aX=>?_
 obtain⟨cc,aY,aZ⟩:=ob aW
 refine lp underlying24 tf62 aT aX aY aU fun ba bb bc cd R ce o S=>(av u (nsr (mv u (lv (rv_len underlying24 u o) (mv u (lv (rv_gtr u u) (nq (wcc aZ u (fun bd q=>?_) (fun bd q=>?_)))))))))
 ·refine sr (mv u (mv u ?_))
  obtain⟨cf,be,bf⟩:=ob q
  refine wl_sl_h (t:=tGHit) wn u underlying24 tf62 u u o be fun bg bh bi bj=>(av u (nq (rr ?_)))
  cases oi bf
  exact ey results41 ⟨bg,bh,bi,R,u,S.s,bj⟩
 refine wc_skip (qr (mv u (av u (nq (wc_ret ?_)))))
 cases oi q
 exact ey results41 ⟨ba,bb,bc,R,u,S.s,o⟩

theorem ok_spec_TopMerge {q0:List (List GHit)}{q1:Int}{r:(List GHit)}(hS:SH w K [] w K [])(l:SliceAt (tSlice tGHit) K A a b q0)(aL:rng64 q1)(hm:M.spec_TopMerge F q0 q1=some r):
  Calls prog 8 #[V3 A a b,V6 q1] w fun e w'=>∃a_1 n_2 c_3 K',e= .returned (V3 a_1 n_2 c_3)∧SH w K [] w' K' []∧SliceAt tGHit K' a_1 n_2 c_3 r:=by
 rw [M.spec_TopMerge] at hm
 refine ci func8 u ntmps8 (sr (lv (r_n u) (nr (b0 tGHit underlying24 tf62 hS fun a6 w7 K8 m aX aY=>(av u (nr (b0 tInt underlying57 tf3 aY fun ay dG aZ d ba aM=>(av u (ns ?_)))))))))
 refine wc_seq ?_
 obtain⟨bb,bc,bd⟩:=ob hm
 refine wc_cutg (IV w K [] aZ [(0,V3 A a b),(1,V6 q1),(5,V3 a6 0 0),(6,V3 ay 0 0),(18,.bool bb)] [tail (V3 a6 0 0) 62 2,tail (V3 ay 0 0) 3 1]) ?_ ?_
 ·refine wc_region (mv u ?_)
  obtain⟨dH,be,bf⟩:=ob bc
  refine lk co38 (ok_spec_l1In F aM.enter0 aL (by decide :rng64 1) (by decide :rng64 16) be) ?_
  rintro dI dJ ⟨aN,rfl,ac⟩
  have aO:=(aM.c0 ac).t2
  refine lv (rv_not u) (mv u (bt bf (fun c az=>?_) (fun c az=>?_)))
  ·refine lu c (lu c (lu c (lv (p_t u c u) (wl_nil ?_))))
   cases oi az
   exact qd ⟨aN,u,aO.f1,ac.le⟩
  refine lg c (rv_move u) (lg c (rv_len (t:=(tSlice tGHit)) underlying26 u (l.mono ((m.trans d).trans ac.le))) (lg c (rv_gtr u u) (lv (rv_pick_f u c u) (wl_nil ?_))))
  cases oi az
  exact qd ⟨aN,u,aO.f1,ac.le⟩
 rintro _ dK ⟨ad,rfl,aP,f⟩
 refine qe_seq (wcc bd u (fun bg aA=>?_) (fun bg aA=>?_))
 ·refine sr (lv (r_n u) (nq (rr ?_)))
  cases oi aA
  exact ey results8 ⟨none,0,0,ad,u,aP.s,(SliceAt.nil _ _)⟩
 refine wc_skip (qs (sr (lv (r_0 u) (nq ?_))))
 obtain⟨bh,bi,D⟩:=ob aA
 refine wc_cutg (fun E' w'=>∃aB ae af ag G,bh= .inl aB∧E'=[(5,V3 ae af ag)]∧SH w K [] w' G []∧KLe ad G∧SliceAt tGHit G ae af ag aB) ?_ ?_
 ·refine wc_block ?_
  obtain⟨dL,bj,aC⟩:=ob bi
  have bk:=aP.sb (sd (sk sz))
  refine qw (fun (o:(List GHit)×(List Int)×Int) E' w'=>∃H I J O R S q,E'=[(0,V3 A a b),(1,V6 q1),(5,V3 H I J),(6,V3 O R S),(7,V6 o.2.2)]∧SH w K [] w' q [tail (V3 O R S) 3 1]∧KLe ad q∧SliceAt tGHit q H I J o.1∧SliceAt tInt q O R S o.2.1∧rng64 o.2.2) bj ⟨a6,0,0,ay,0,0,ad,u,bk,kr,(aX.mono (d.trans f)),(ba.mono f),d_0⟩ ?_
  rintro o _ dM dN bl aD ⟨H,I,J,O,R,S,q,rfl,ah,i,aQ,bm,dO⟩
  refine wc_seq (sr (mv u (mv u (lv (rv_len (t:=(tSlice tGHit)) underlying26 u (SliceAt.mono (((m.trans d).trans f).trans i) l)) (lv (rv_lss u u) (nq (wcc bl u (fun bn aE=>?_) (fun bn aE=>?_))))))))
  ·refine wc_skip (qs (wc_block (wc_seq (sr (mv u (mv u ?_))))))
   obtain⟨dP,bo,bp⟩:=ob aE
   refine li underlying26 tf24 (SliceAt.mono (((m.trans d).trans f).trans i) l) bo fun bq br dQ bs bu=>?_
   obtain⟨bv,bx,bz,rfl,bA⟩:=bs
   have bB:AtK _ bq br [V3 bv bx bz]:=bu
   refine lv (rv_load1 tf24 u ah (bB 0 _ u)) ?_
   obtain⟨dR,bC,bD⟩:=ob bp
   refine lk co39 (ok_spec_l13Ok F ah.enter0 bA bC) ?_
   rintro dS dT ⟨ai,rfl,k⟩
   have aR:=(ah.c0 k).t1
   refine lv (rv_not u) (nq (wcc bD u (fun bE aF=>?_) (fun bE aF=>?_)))
   ·refine sr (lv (r_n u) (nq (rr (qe_block_ret (qe_then_ret (qe_then_ret ?_))))))
    cases oi aF
    cases aD _ u
    refine qe_block_ret (qe_then_ret ?_)
    cases oi aC
    refine qe_then_ret ?_
    cases oi D
    exact ey results8 ⟨none,0,0,ai,u,aR.s,(SliceAt.nil _ _)⟩
   refine wc_skip (qr (lv (r_0 u) (nq ?_)))
   obtain⟨bF,bG,aj⟩:=ob aF
   refine wc_cutg (fun E' w'=>∃ak al am an T U V s,bF= .inl ak∧E'=[(0,V3 A a b),(1,V6 q1),(5,V3 al am an),(6,V3 T U V),(7,V6 o.2.2)]∧SH w K [] w' s [tail (V3 T U V) 3 1]∧KLe ai s∧SliceAt tGHit s al am an ak.1∧SliceAt tInt s T U V ak.2) ?_ ?_
   ·refine wc_block ?_
    obtain⟨dU,bH,aS⟩:=ob bG
    refine qw (fun (W:(List GHit)×(List Int)×Int) E' w'=>∃ao ap aq X Y aa x,E'=[(0,V3 A a b),(1,V6 q1),(5,V3 ao ap aq),(6,V3 X Y aa),(7,V6 o.2.2),(8,V6 W.2.2)]∧SH w K [] w' x [tail (V3 X Y aa) 3 1]∧KLe ai x∧SliceAt tGHit x ao ap aq W.1∧SliceAt tInt x X Y aa W.2.1∧rng64 W.2.2) bH ⟨H,I,J,O,R,S,ai,u,aR,kr,(aQ.mono k.le),(bm.mono k.le),d_0⟩ ?_
    rintro W _ dV dW bI aT ⟨ao,ap,aq,X,Y,aa,x,rfl,y,B,aU,aG,dX⟩
    refine wc_seq (sr (mv u (mv u (mv u ?_))))
    obtain⟨dY,bJ,bK⟩:=ob bI
    refine li underlying26 tf24 (SliceAt.mono (((((m.trans d).trans f).trans i).trans k.le).trans B) l) bJ fun bL bM dZ bN bO=>?_
    obtain⟨bP,bQ,bR,rfl,bS⟩:=bN
    have bT:AtK _ bL bM [V3 bP bQ bR]:=bO
    refine lv (rv_load1 tf24 u y (bT 0 _ u)) (lv (rv_len underlying24 u bS) (lv (rv_lss u u) (nq (wcc bK u (fun bU aH=>?_) (fun bU aH=>?_)))))
    ·refine wc_skip (qs (wc_block (wc_seq (sr (mv u (mv u (mv u ?_)))))))
     obtain⟨ea,bV,bW⟩:=ob aH
     refine li underlying26 tf24 (SliceAt.mono (((((m.trans d).trans f).trans i).trans k.le).trans B) l) bV fun bX bY eb bZ ca=>?_
     obtain⟨cb,cc,cd,rfl,ce⟩:=bZ
     have cf:AtK _ bX bY [V3 cb cc cd]:=ca
     refine lv (rv_load1 tf24 u y (cf 0 _ u)) (mv u ?_)
     obtain⟨aV,cg,ch⟩:=ob bW
     refine li underlying24 tf62 ce cg fun cj ck ec cl cm=>?_
     obtain⟨rfl,cn,ed⟩:=cl
     have cp:AtK _ cj ck [V6 aV.Doc,V6 aV.Points]:=cm
     refine fa ff62_0 u (lv (rv_load1 tf3 u y (cp 0 _ u)) ?_)
     obtain⟨ee,cq,cr⟩:=ob ch
     refine lk co40 (ok_spec_l8Has F y.enter0 aG cn cq) ?_
     rintro ef eg ⟨cs,rfl,C⟩
     have ar:=(y.c0 C).t1
     refine nq (wcc cr u (fun ct aI=>?_) (fun ct aI=>?_))
     ·refine sr (lv (r_n u) (nq (rr (qe_block_ret (qe_then_ret (qe_then_ret ?_))))))
      cases oi aI
      cases aT _ u
      refine qe_block_ret (qe_then_ret ?_)
      cases oi aS
      refine qe_block_ret (qe_then_ret (qe_then_ret ?_))
      cases oi aj
      cases aD _ u
      refine qe_block_ret (qe_then_ret ?_)
      cases oi aC
      refine qe_then_ret ?_
      cases oi D
      exact ey results8 ⟨none,0,0,cs,u,ar.s,(SliceAt.nil _ _)⟩
     refine wc_skip (qr (mv u (mv u (mv u ?_))))
     obtain⟨eh,cu,cv⟩:=ob aI
     refine li underlying26 tf24 (SliceAt.mono ((((((m.trans d).trans f).trans i).trans k.le).trans B).trans C.le) l) cu fun cw cx ei cy cz=>?_
     obtain⟨cA,cB,cC,rfl,cD⟩:=cy
     have cE:AtK _ cw cx [V3 cA cB cC]:=cz
     refine lv (rv_load1 tf24 u ar (cE 0 _ u)) (mv u ?_)
     obtain⟨ab,cF,cG⟩:=ob cv
     refine li underlying24 tf62 cD cF fun cH cI ej cJ cK=>?_
     obtain⟨rfl,cL,ek⟩:=cJ
     have cM:AtK _ cH cI [V6 ab.Doc,V6 ab.Points]:=cK
     refine fa ff62_0 u (lv (rv_load1 tf3 u ar (cM 0 _ u)) (lb tInt (V6 ab.Doc) [V6 ab.Doc] ab.Doc underlying57 tf3 ⟨u,cL⟩ ar fun el em en au cN cO=>?_))
     obtain⟨eo,cP,cQ⟩:=ob cG
     refine lp underlying57 tf3 (aG.mono (C.le.trans au)) cN cP cO.f1 fun cR cS cT ep eq aJ cU aw=>(av u (nq (wc_region (mv u (mv u (mv u ?_))))))
     obtain⟨es,cV,cW⟩:=ob cQ
     refine li underlying26 tf24 (SliceAt.mono ((((((((m.trans d).trans f).trans i).trans k.le).trans B).trans C.le).trans au).trans aJ) l) cV fun cX cY et cZ da=>?_
     obtain⟨db,dc,dd,rfl,de⟩:=cZ
     have df:AtK _ cX cY [V3 db dc dd]:=da
     refine lv (rv_load1 tf24 u aw (df 0 _ u)) (mv u ?_)
     obtain⟨aW,dg,dh⟩:=ob cW
     refine li underlying24 tf62 de dg fun di dj eu dk dl=>?_
     obtain⟨rfl,dm,dn⟩:=dk
     have dp:AtK _ di dj [V6 aW.Doc,V6 aW.Points]:=dl
     refine lv (rv_loadS tf62 u aw dp u) (mv u ?_)
     obtain⟨ev,dq,dr⟩:=ob dh
     refine lk co41 (ok_spec_l13Push F aw.enter0 (aU.mono ((C.le.trans au).trans aJ)) dm dn aL dq) ?_
     rintro ew ex ⟨ds,dt,du,dv,rfl,aK,dw⟩
     have dx:=(aw.c0 aK).t2
     refine av u (nb (qe_seq (wc_region (mv u (lv (rv_add u u) (av u (wl_nil ?_)))))))
     cases oi dr
     exact qd ⟨_,u,ds,dt,du,cR,cS,cT,dv,u,dx.s,((((B.trans C.le).trans au).trans aJ).trans aK.le),dw,(cU.mono aK.le),(w64_rng _)⟩
    refine wc_exit (qe_then_exit (qe_then_exit ?_))
    cases oi aH
    cases aT _ u
    refine qe_block_eq ?_
    cases oi aS
    exact qd ⟨_,ao,ap,aq,X,Y,aa,x,u,u,y,B,aU,aG⟩
   rintro _ eA ⟨ak,al,am,an,T,U,V,s,rfl,rfl,dy,dz,dA,dB⟩
   have aj:=elim_l aj
   refine qe_block (qe_seq (wc_region (mv u (lv (rv_add u u) (av u (wl_nil ?_))))))
   cases oi aj
   exact qd ⟨_,u,al,am,an,T,U,V,s,u,dy,((i.trans k.le).trans dz),dA,dB,(w64_rng _)⟩
  refine wc_exit (qe_then_exit (qe_then_exit ?_))
  cases oi aE
  cases aD _ u
  refine qe_block_eq ?_
  cases oi aC
  exact qd ⟨_,H,I,J,q,u,u,ah.s,i,aQ⟩
 rintro _ eB ⟨aB,ae,af,ag,G,rfl,rfl,dC,eC,dD⟩
 have D:=elim_l D
 refine qr (mv u (av u (nq (wc_ret ?_))))
 cases oi D
 exact ey results8 ⟨ae,af,ag,G,u,dC,dD⟩

theorem ok_laws_toHit {q0:GHit}{r:GHit}(hS:SH w K [] w K [])(f:rng64 q0.Doc)(i:rng64 q0.Points)(hm:M.laws_toHit F q0=some r):
  Calls prog 76 #[.agg #[V6 q0.Doc,V6 q0.Points]] w fun e w'=>∃K',e= .returned (.agg #[V6 r.Doc,V6 r.Points])∧SH w K [] w' K' []∧rng64 r.Doc∧rng64 r.Points:=by
 rw [M.laws_toHit] at hm
 refine ci func76 u ntmps76 (sr (bx u hS fun g3 x k=>?_))
 have l:SH _ _ _ _ _ [obj g3 [V6 q0.Doc,V6 q0.Points] 109]:=k
 refine al tf62 l fun m y o=>?_
 have q:SH _ _ _ _ _ [obj m [V6 0,V6 0] 62,_]:=o
 refine nr (al tf62 q fun s A v=>?_)
 have a:SH _ _ _ _ _ [obj s [V6 0,V6 0] 62,_,_]:=v
 refine nr (fl ff109_0 u tf3 m2 a u (fa ff62_0 u (ls [V6 q0.Doc,V6 0] (V6 q0.Doc) tf3 a fun B b=>(nr (fl ff109_1 u tf3 m2 b u (fa ff62_1 u (ls [V6 q0.Doc,V6 q0.Points] (V6 q0.Points) tf3 b fun C c=>(nr (lv (rv_loadmS (ds:=[V6 q0.Doc,V6 q0.Points]) tf62 u m0 c u u) ?_)))))))))
 refine lw [V6 q0.Doc,V6 q0.Points] tf62 c.f1 fun D d=>(nq (wc_ret ?_))
 cases oi hm
 exact ez results76 tf62 d m0 ⟨K,u,d.s,f,i⟩

theorem ok_laws_toHitS {q0:List GHit}{r:(List GHit)}(hS:SH w K [] w K [])(y:SliceAt tGHit K A a b q0)(hm:M.laws_toHitS F q0=some r):
  Calls prog 42 #[V3 A a b] w fun e w'=>∃a_1 n_2 c_3 K',e= .returned (V3 a_1 n_2 c_3)∧SH w K [] w' K' [tail (V3 a_1 n_2 c_3) 62 2]∧SliceAt tGHit K' a_1 n_2 c_3 r:=by
 rw [M.laws_toHitS] at hm
 refine ci func42 u ntmps42 (sr (lv (r_n u) (nr (mv u (lv (rv_len underlying56 u y) ?_)))))
 obtain⟨O,R,S⟩:=ob hm
 refine wl_make (t:=tGHit) wn u underlying24 tf62 u u u R ⟨u,d_0,d_0⟩ hS fun f cs9 aA hmx13 hrow11 T=>?_
 obtain⟨m14,hm15⟩: ∃m,m=O.length:=⟨_,u⟩
 rw [←hm15] at hmx13
 rw [←hm15]
 refine av u (nsr (lv (r_0 u) (nq ?_)))
 obtain⟨D,U,V⟩:=ob S
 refine wc_cutg (fun E' w'=>∃cs23 l,E'=[(3,V3 (some ⟨f,0,none⟩) m14 m14)]∧SH w K [] w' l [obj f cs23 62]∧KLe K l∧RowAt true tGHit l cs23 D∧m14=D.length) ?_ ?_
 ·refine wc_block ?_
  obtain⟨aB,W,X⟩:=ob U
  refine qw (fun (c:Int×(List GHit)) E' w'=>∃cs36 k,E'=[(0,V3 A a b),(3,V3 (some ⟨f,0,none⟩) m14 m14),(4,V6 c.1)]∧SH w K [] w' k [obj f cs36 62]∧KLe K k∧rng64 c.1∧RowAt true tGHit k cs36 c.2∧m14=c.2.length) W ⟨cs9,K,u,T,kr,d_0,hrow11,hm15⟩ ?_
  rintro c _ aC aD Y aa ⟨cs36,k,rfl,o,q,aE,hrow37,hm38⟩
  refine wc_seq (sr (mv u (mv u (lv (rv_len underlying56 u (y.mono q)) (lv (rv_lss u u) (nq (wcc Y u (fun ab B=>?_) (fun ab B=>?_))))))))
  ·refine wc_skip (qs (wc_block (wc_region (mv u (mv u (mv u (mv u ?_)))))))
   obtain⟨G,ac,ad⟩:=ob B
   refine li underlying56 tf109 (y.mono q) ac fun ae af aF ag ah=>?_
   obtain⟨rfl,ai,aj⟩:=ag
   have ak:AtK _ ae af [V6 G.Doc,V6 G.Points]:=ah
   refine lv (rv_loadS tf109 u o ak u) ?_
   obtain⟨s,al,am⟩:=ob ad
   refine lk co76 (ok_laws_toHit F o.enter0 ai aj al) ?_
   rintro aG aH ⟨an,rfl,x,ao,ap⟩
   have aq:=(o.c0 x).t1
   obtain⟨H,C,ar⟩:=ob am
   obtain⟨aI,au,aw⟩:=RowAt.at (RowAt.mono x.le hrow37) C
   obtain⟨rfl,aJ,aK⟩:=au
   have aL: ∀(j:Nat) (d:Value),[V6 H.Doc,V6 H.Points][j]? =some d→cs36[c.1.toNat*tGHit.size+j]? =some d:=aw
   refine lv (rv_indexRow (t:=tGHit) underlying24 tf62 u u hm38 C) (wl_storeRow (t:=tGHit) (v:=.agg #[V6 s.Doc,V6 s.Points]) (e:=s) wn tf62 u u ⟨u,ao,ap⟩ aq (RowAt.mono x.le hrow37) C fun cs74 aM hrow76 ax=>?_)
   have hm78:=hm38.trans (List.length_set (i:=c.1.toNat) (a:=s)).symm
   refine nb (qe_seq (wc_region (mv u (lv (rv_add u u) (av u (wl_nil ?_))))))
   cases oi ar
   exact qd ⟨_,u,cs74,an,u,ax,(q.trans x.le),(w64_rng _),hrow76,hm78⟩
  refine wc_exit (qe_then_exit (qe_then_exit ?_))
  cases oi B
  cases aa _ u
  refine qe_block_eq ?_
  cases oi X
  exact qd ⟨cs36,k,u,o,q,hrow37,hm38⟩
 rintro _ aN ⟨cs23,l,rfl,ay,aO,hrow24,hm25⟩
 refine qr (mv u (av u (nq (wc_ret ?_))))
 obtain⟨az,aP,I,J⟩:=SH.freeze ay hrow24 (row_max hm25 hmx13)
 rw [←hm25] at I J
 cases oi V
 exact ey results42 ⟨(some ⟨f,0,none⟩),m14,m14,az,u,J,I⟩

theorem bag_laws_toHitS (F:Nat){w:World}{K:KMap}{a1:Option Addr}{n2 c3:Nat}{p0_a:List GHit}{r:(List GHit)}(hS:SH w K [] w K [])(hs4:SliceAt tGHit K a1 n2 c3 p0_a)(hm:M.laws_toHitS F p0_a=some r):
  Calls Try.prog 42 #[.slice a1 n2 c3] w fun e w'=>∃(a_1:Option Addr) (n_2 c_3:Nat) (K':KMap) (B':List Nat),e= .returned (.slice a_1 n_2 c_3)∧SH w K [] w' K' [bag B']∧SliceAt tGHit (K'.only B') a_1 n_2 c_3 r:=
 (ok_laws_toHitS F hS hs4 hm).mono fun e w' ⟨a,n,c,K',he,hS',hs'⟩=>
  let ⟨B,hB,hb⟩:=SH.bagTail hS'
  ⟨a,n,c,K',B,he,hB,SliceAt.only_flat (t:=tGHit) (fun h=>h) hs' hb⟩

theorem bag_laws_toHitSS (F:Nat){w:World}{K:KMap}{a1:Option Addr}{n2 c3:Nat}{p0_a:List (List GHit)}{r:(List (List GHit))}(hS:SH w K [] w K [])(hs4:SliceAt (tSlice tGHit) K a1 n2 c3 p0_a)(hm:M.laws_toHitSS F p0_a=some r):
  Calls Try.prog 9 #[.slice a1 n2 c3] w fun e w'=>∃(a_1:Option Addr) (n_2 c_3:Nat) (K':KMap) (B':List Nat),e= .returned (.slice a_1 n_2 c_3)∧SH w K [] w' K' [bag B']∧SliceAt (tSlice tGHit) (K'.only B') a_1 n_2 c_3 r:=by
 rw [M.laws_toHitSS] at hm
 refine calls_in Try.func9 u Try.ntmps9 u ?_
 refine sr ?_
 refine wl_val wn u (rv_assign (v:=.slice none 0 0) u) ?_
 refine nr ?_
 refine vm u u ?_
 refine wl_val wn u (rv_len (t:=(tSlice tGHit)) Try.underlying22 u hs4) ?_
 obtain⟨x5,hx6,h7⟩:=ob hm
 refine wl_make (t:=Ty.fix (tSlice tGHit) (K.only [])) wn u Try.underlying26 tf24 u u u hx6 ⟨_,_,_,u,(SliceAt.nil _ _)⟩ hS ?_
 intro g8 cs9 w10 hmx13 hrow11 hS12
 obtain⟨m14,hm15⟩: ∃m,m=x5.length:=⟨_,u⟩
 rw [←hm15] at hmx13
 rw [←hm15]
 refine va u u ?_
 refine nsr ?_
 refine wl_val wn u (rv_assign (v:=.int .i64 0) u) ?_
 refine nq ?_
 obtain⟨o16,h17,h18⟩:=ob h7
 refine wc_cutg (fun E' w'=>∃(cs23:List Value) (K19:KMap) (B19:List Nat),E'=[(3,.slice (some ⟨g8,0,none⟩) m14 m14)]∧SH w K [] w' K19 [obj g8 cs23 24,bag B19]∧KLe K K19∧RowAt true (tSlice tGHit) (K19.only B19) cs23 o16∧m14=o16.length) ?_ ?_
 ·refine wc_block ?_
  obtain⟨r27,h28,h29⟩:=ob h17
  refine wc_while' (fun (s26:Int×(List (List GHit))) E' w'=>∃(cs36:List Value) (K30:KMap) (B30:List Nat),E'=[(0,.slice a1 n2 c3),(3,.slice (some ⟨g8,0,none⟩) m14 m14),(4,.int .i64 s26.1)]∧SH w K [] w' K30 [obj g8 cs36 24,bag B30]∧KLe K K30∧rng64 s26.1∧RowAt true (tSlice tGHit) (K30.only B30) cs36 s26.2∧m14=s26.2.length) h28 ⟨cs9,K,[],u,(SH.perm (SH.bag0 hS12) (List.Perm.swap _ _ _)),(KLe.refl _),d_0,hrow11,hm15⟩ ⟨u,u,u,trivial⟩ ?_
  rintro s26 _ w33 r39 h40 hx41 ⟨cs36,K30,B30,rfl,hS34,hl31,hr35,hrow37,hm38⟩
  refine wc_seq ?_
  refine sr ?_
  refine vm u u ?_
  refine vm u u ?_
  refine wl_val wn u (rv_len (t:=(tSlice tGHit)) Try.underlying22 u (SliceAt.mono hl31 hs4)) ?_
  refine wl_val wn u (rv_lss u u) ?_
  refine nq ?_
  refine wc_cond u (fun hb42=>?_) (fun hb42=>?_)
  ·have h43:=cond_t hb42 h40
   refine wc_skip ?_
   refine qs ?_
   refine wc_block ?_
   refine wc_region ?_
   refine vm u u ?_
   refine vm u u ?_
   refine vm u u ?_
   refine vm u u ?_
   obtain⟨x44,hx45,h46⟩:=ob h43
   refine wl_indexAddr (t:=(tSlice tGHit)) wn u Try.underlying22 tf56 u u (SliceAt.mono hl31 hs4) hx45 ?_
   intro b47 o48 u49 hu50 ha51
   obtain⟨a52,n53,c54,rfl,hs55⟩:=hu50
   have ha56:AtK _ b47 o48 [.slice a52 n53 c54]:=ha51
   refine wl_val wn u (rv_load1 tf56 u hS34 (ha56 0 _ u)) ?_
   obtain⟨r57,hx58,h59⟩:=ob h46
   refine wl_call wn u (rt_call (vs:=[.slice a52 n53 c54]) co42 u) ((bag_laws_toHitS F) hS34.enter0 hs55 hx58) ?_
   rintro e67 w61 ⟨a63,n64,c65,K60,B60,rfl,hS62,hs66⟩
   refine⟨_,u,?_⟩
   have hS68:SH _ _ _ _ _ [_,_]:=SH.bagJoin (SH.perm (SH.call0 hS34 hS62) (List.Perm.cons _ (List.Perm.swap _ _ _)))
   obtain⟨x69,hx70,h71⟩:=ob h59
   obtain⟨u72,hu73,hk74⟩:=RowAt.at (RowAt.mono (only_mono hS62.le fun _ h=>h) hrow37) hx70
   obtain⟨a76,n77,c78,rfl,hs79⟩:=hu73
   have hk75: ∀(j:Nat) (d:Value),[.slice a76 n77 c78][j]? =some d→cs36[s26.1.toNat*(tSlice tGHit).size+j]? =some d:=hk74
   refine wl_val wn u (rv_indexRow (t:=(tSlice tGHit)) Try.underlying26 tf24 u u hm38 hx70) ?_
   have hS80:SH _ _ _ _ _ [_,_]:=SH.front (p:=[_]) hS68
   refine wl_storeRow (t:=Ty.fix (tSlice tGHit) (K60.only (B60++B30))) (v:=.slice a63 n64 c65) (e:=r57) wn tf24 u u ⟨_,_,_,u,(SliceAt.mono (only_mono (KLe.refl _) fun _ h=>List.mem_append_left _ h) hs66)⟩ hS80 (show RowAt true (tSlice tGHit) (K60.only (B60++B30)) _ _ from RowAt.mono (only_mono hS62.le fun _ h=>List.mem_append_right _ h) hrow37) hx70 ?_
   intro cs81 w82 hrow83 hS84
   have hm85:=hm38.trans (List.length_set (i:=s26.1.toNat) (a:=r57)).symm
   refine nb ?_
   refine qe_seq ?_
   refine wc_region ?_
   refine vm u u ?_
   refine wl_val wn u (rv_add u u) ?_
   refine va u u ?_
   refine wl_nil ?_
   obtain rfl:=oi h71
   have hS86:=hS84
   exact qe_mid' ⟨_,u,cs81,K60,(B60++B30),u,hS86,(hl31.trans hS62.le),(w64_rng _),hrow83,hm85⟩ ⟨u,u,u,trivial⟩
  ·have h43:=cond_f hb42 h40
   refine wc_exit ?_
   refine qe_then_exit ?_
   refine qe_then_exit ?_
   obtain rfl:=oi h43
   have e87:=hx41 _ u
   subst e87
   refine qe_block_eq ?_
   obtain rfl:=oi h29
   exact qe_mid' ⟨cs36,K30,B30,u,hS34,hl31,hrow37,hm38⟩ ⟨u,trivial⟩
 ·rintro _ w21 ⟨cs23,K19,B19,rfl,hS22,hl20,hrow24,hm25⟩
  refine qr ?_
  refine vm u u ?_
  refine va u u ?_
  refine nq ?_
  refine wc_ret ?_
  obtain⟨K88,hl89,hs90,hS91⟩:=SH.freeze (t:=Ty.fix (tSlice tGHit) (K19.only B19)) hS22 hrow24 (row_max hm25 hmx13)
  rw [←hm25] at hs90 hS91
  obtain rfl:=oi h18
  obtain⟨Bz,hSz,hBz⟩:=SH.bagTail hS91
  exact qe_ret (vs:=[_]) Try.results9 ⟨u,trivial⟩ ⟨(some ⟨g8,0,none⟩),m14,m14,K88,(Bz++B19),u,SH.bagJoin hSz,SliceAt.unfix hs90 (only_mono hl89 fun _ h=>List.mem_append_right _ h) (fun hc b o e=>List.mem_append_left _ (hBz hc b o e))⟩

theorem ok_impl_within {q0:Int}{q1:Int}{q2:Int}{r:Bool}(hS:SH w K [] w K [])(c:rng64 q0)(d:rng64 q1)(f:rng64 q2)(hm:M.impl_within F q0 q1 q2=some r):
  Calls prog 43 #[V6 q0,V6 q1,V6 q2] w (R_b w K r):=by
 rw [M.impl_within] at hm
 refine ci func43 u ntmps43 (sr (lv (r_f u) (nr (mv u (mv u (lv (rv_geq u u) (mv u (bt hm (fun a b=>?_) (fun a b=>?_)))))))))
 ·refine lg a (rv_move u) (lg a (rv_move u) (lg a (rv_leq u u) (lv (rv_pick_t u a u) (av u (nq (wc_ret ?_))))))
  cases oi b
  exact ey results43 ⟨K,u,hS⟩
 refine lu a (lu a (lu a (lv (p_f u a u) (av u (nq (wc_ret ?_))))))
 cases oi b
 exact ey results43 ⟨K,u,hS⟩

theorem ok_impl_hasDoc_1 {q0:GHit}{q1:Int}{r:Bool}(hS:SH w K Z w K [obj g3 [V6 q1] 3])(d:rng64 q0.Doc)(f:rng64 q0.Points)(i:rng64 q1)(hm:M.impl_hasDoc_1 F q0 q1=some r):
  Calls prog 79 #[.agg #[V6 q0.Doc,V6 q0.Points],.pointer (some ⟨g3,0,none⟩)] w fun e w'=>∃K',e= .returned (.bool r)∧SH w K Z w' K' [obj g3 [V6 q1] 3]:=by
 rw [M.impl_hasDoc_1] at hm
 refine ci func79 u ntmps79 (sr (bx u hS fun b k c=>?_))
 have a:SH _ _ _ _ _ [obj b [V6 q0.Doc,V6 q0.Points] 62,_]:=c
 refine lv (r_f u) (nr (fl ff62_0 u tf3 m0 a u (lv (rv_loadm1 tf3 u m1 a u) (lv (rv_eql u u) (av u (nq (wc_ret ?_)))))))
 cases oi hm
 exact ey results79 ⟨K,u,a.s⟩

theorem ok_slices_IndexFunc_Hit__impl_hasDoc_1 {q0:List GHit}{q1c0:Int}{r:Int}(hS:SH w K Z w K [obj c [V6 q1c0] 3])(f:SliceAt tGHit K A a b q0)(D:rng64 q1c0)(hm:M.slices_IndexFunc_Hit__impl_hasDoc_1 F q0 q1c0=some r):
  Calls prog 103 #[V3 A a b,.func (.func 79) #[] #[.pointer (some ⟨c,0,none⟩)]] w fun e w'=>∃K',e= .returned (V6 r)∧SH w K Z w' K' [obj c [V6 q1c0] 3]∧rng64 r:=by
 rw [M.slices_IndexFunc_Hit__impl_hasDoc_1] at hm
 refine ci func103 u ntmps103 (sr (lv (r_0 u) (nsr (mv u (lv (rv_len underlying24 u f) (lv (r_m u) (nq ?_)))))))
 obtain⟨G,H,i⟩:=ob hm
 refine wc_cutg (IE G w K Z K [] [obj c [V6 q1c0] 3]) ?_ ?_
 ·refine wc_block ?_
  obtain⟨ai,I,o⟩:=ob H
  refine qf (fun (q:Nat) (s:Unit)=>IV w K Z K [(0,V3 A a b),(1,.func (.func 79) #[] #[pt c]),(7,V6 (q0.length:Int)),(8,V6 ((q:Nat):Int))] [obj c [V6 q1c0] 3]) I ⟨K,u,hS,kr⟩ ?_ ?_
  ·rintro q s _ J aj hi25 O R ⟨x,rfl,d,k⟩
   refine sr (lv (rv_lss u u) (ns (wc_cond_t u (decide_eq_true (by omega)) (wc_skip (qe_seq (wc_seq (wc_block (sr (mv u (av u (nr (mv u ?_))))))))))))
   refine mv u (mv u ?_)
   obtain⟨l,S,T⟩:=ob O
   refine li underlying24 tf62 (f.mono k) S fun U V ak W X=>?_
   obtain⟨rfl,Y,aa⟩:=W
   have ab:AtK _ U V [V6 l.Doc,V6 l.Points]:=X
   refine lv (rv_loadS tf62 u d ab u) ?_
   obtain⟨al,ac,ad⟩:=ob T
   refine wl_call wn u (rt_callv (vs:=[.agg #[V6 l.Doc,V6 l.Points]]) (cap:=#[pt c]) co79 u u) (ok_impl_hasDoc_1 F d.e1 Y aa D ac) ?_
   rintro am an ⟨y,rfl,B⟩
   refine⟨_,u,?_⟩
   have C:=(d.c1 B).t1
   refine nq (wcc ad u (fun ae m=>?_) (fun ae m=>?_))
   ·refine sr (mv u (av u (nq (wc_ret (qe_block_ret (qe_then_ret (qe_then_ret ?_)))))))
    cases oi m
    cases R _ u
    refine qe_block_ret (qe_then_ret ?_)
    cases oi o
    refine qe_then_ret ?_
    cases oi i
    exact ey results103 ⟨y,u,C,(rng_idx hi25 (SliceAt.max f))⟩
   refine wc_skip (qe_block (qg (lv (rv_add_to u u (w64_succ hi25 (SliceAt.max f))) (mv u (wl_nil ?_)))))
   cases oi m
   exact qd ⟨_,u,y,u,C,(k.trans B.le)⟩
  rintro s _ J af ⟨x,rfl,d,k⟩
  subst af
  refine sr (lv (rv_lss u u) (ns (wc_cond_f u (decide_eq_false (by omega)) (wc_exit (qe_then_exit (qe_then_exit (qe_block_eq ?_)))))))
  cases oi o
  exact qe_mid' ⟨_,x,u,u,d,k⟩ trivial
 rintro _ ao ⟨ap,ag,rfl,rfl,ah,aq⟩
 have i:=elim_l i
 refine qr (lv (rv_assign (v:=V6 (-1)) u) (nq (wc_ret ?_)))
 cases oi i
 exact ey results103 ⟨ag,u,ah,(by decide :rng64 (-1))⟩

theorem ok_slices_ContainsFunc_Hit__impl_hasDoc_1 {q0:List GHit}{q1c0:Int}{r:Bool}(hS:SH w K Z w K [obj c [V6 q1c0] 3])(d:SliceAt tGHit K A a b q0)(f:rng64 q1c0)(hm:M.slices_ContainsFunc_Hit__impl_hasDoc_1 F q0 q1c0=some r):
  Calls prog 78 #[V3 A a b,.func (.func 79) #[] #[.pointer (some ⟨c,0,none⟩)]] w fun e w'=>∃K',e= .returned (.bool r)∧SH w K Z w' K' [obj c [V6 q1c0] 3]:=by
 rw [M.slices_ContainsFunc_Hit__impl_hasDoc_1] at hm
 refine ci func78 u ntmps78 (sr (lv (r_f u) (nr (mv u (mv u ?_)))))
 obtain⟨q,i,k⟩:=ob hm
 refine lk co103 (ok_slices_IndexFunc_Hit__impl_hasDoc_1 F hS.e1 d f i) ?_
 rintro s x ⟨l,rfl,m,y⟩
 have o:=(hS.c1 m).t1
 refine lv (rv_geq u u) (av u (nq (wc_ret ?_)))
 cases oi k
 exact ey results78 ⟨l,u,o⟩

theorem ok_impl_hasDoc {q0:List GHit}{q1:Int}{r:Bool}(hS:SH w K [] w K [])(f:SliceAt tGHit K A a b q0)(i:rng64 q1)(hm:M.impl_hasDoc F q0 q1=some r):
  Calls prog 45 #[V3 A a b,V6 q1] w (R_b w K r):=by
 rw [M.impl_hasDoc] at hm
 refine ci func45 u ntmps45 (sr (bx u hS fun c x k=>?_))
 have d:SH _ _ _ _ _ [obj c [V6 q1] 3]:=k
 refine lv (r_f u) (nr (mv u (lv (rv_makeFunc (vs:=[pt c]) u) ?_)))
 obtain⟨y,l,m⟩:=ob hm
 refine lk co78 (ok_slices_ContainsFunc_Hit__impl_hasDoc_1 F d.e1 f i l) ?_
 rintro B C ⟨o,rfl,q⟩
 have s:=(d.c1 q).t1
 refine av u (nq (wc_ret ?_))
 cases oi m
 exact ey results45 ⟨o,u,s.s⟩
end Go.Proofs.Ytepcfgnicnibnaa
