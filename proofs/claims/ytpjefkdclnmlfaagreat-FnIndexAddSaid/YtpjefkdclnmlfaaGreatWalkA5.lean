/-
 Walks of the functions. Printed by gen.py.
-/
import Derived.Test.YtpjefkdclnmlfaaGreatLawDocsT
import Derived.Test.YtpjefkdclnmlfaaGreatCoreQp
import Derived.Test.YtpjefkdclnmlfaaGreatWalkA1
import Derived.Test.YtpjefkdclnmlfaaGreatWalkA3
import Derived.Test.YtpjefkdclnmlfaaGreatWalkA4
set_option linter.unusedVariables false
set_option linter.unusedSectionVars false
set_option maxRecDepth 100000
namespace Go.Proofs.YtpjefkdclnmlfaaGreat
set_option maxHeartbeats 4000000
open Go Go.Fk Go.RowKit Tryz
variable (F:Nat){w:World}{K:KMap}{Z:List Nat}{g1 g2 g3:Nat}{A B C D G H I J O R S T:Option Addr}{a b c d f i k l m n o p q s v x y aa ab ac ad ae af ag:Nat}
variable [dr:Dr]

theorem ok_impl_IndexDocs {q0:GIndex}{r:(List GDoc)}(hS:SH w K [] w K [])(G:SliceAt tStr K A a b q0.Conf.Stops)(H:SliceAt tGSyn K B c d q0.Conf.Syns)(o:SliceAt tGLive K C f i q0.Segs)(hm:M.impl_IndexDocs F q0=some r):
  Calls prog 37 #[.agg #[V3 A a b,V3 B c d,V3 C f i]] w fun e w'=>∃a_1 n_2 c_3 K',e= .returned (V3 a_1 n_2 c_3)∧SH w K [] w' K' [tail (V3 a_1 n_2 c_3) 77 3]∧SliceAt tGDoc K' a_1 n_2 c_3 r:=by
 rw [M.impl_IndexDocs] at hm
 refine ci func37 u ntmps37 (sr (bx u hS fun I ai J=>?_))
 have l:SH _ _ _ _ _ [obj I [V3 A a b,V3 B c d,V3 C f i] 36]:=J
 refine lv (r_n u) (nsr (lv (rv_loadmS (ds:=[V3 A a b,V3 B c d,V3 C f i]) tf36 u m0 l u u) ?_))
 obtain⟨aj,q,O⟩:=ob hm
 refine lk co14 (ok_impl_IndexOk F l.enter0 G H o q) ?_
 rintro ak al ⟨am,rfl,s⟩
 have k:=(l.c0 s).t1
 refine lv (rv_not u) (nq (wcc O u (fun x m=>?_) (fun x m=>?_)))
 ·refine sr (b0 tGDoc underlying43 tf77 k fun R an S ao T U=>(av u (nq (rr ?_))))
  cases oi m
  exact ey results37 ⟨R,0,0,S,u,U.s,T⟩
 refine wc_skip (qr (fl ff36_1 u tf34 m0 k u ?_))
 obtain⟨ap,y,V⟩:=ob m
 refine lk co61 (ok_impl_allAlive F k.enter0 (o.mono s.le) y) ?_
 rintro aq ar ⟨au,aw,ax,ay,ysX,rfl,W,X,hpX,hwX⟩
 have eX:=index_any q x y hpX hwX
 subst eX
 have D:=(k.c0 W).t2
 obtain⟨az,Y,aa⟩:=ob V
 refine lk co72 (ok_impl_cloneDocs F D.enter0 X Y) ?_
 rintro aA aB ⟨ab,ac,ad,ae,rfl,af,ag⟩
 have ah:=(D.c0 af).t3
 refine av u (nq (wc_ret ?_))
 cases oi aa
 exact ey results37 ⟨ab,ac,ad,ae,u,ah.s,ag⟩

theorem ok_laws_foDoc {q0:GDoc}{q1:GDoc}{r:Bool}(hS:SH w K [] w K [])(bF:rng64 q0.Id)(V:SliceAt tGField K A a b q0.Fields)(W:SliceAt tGAttr K B c d q0.Nums)(bG:rng64 q1.Id)(al:SliceAt tGField K C f i q1.Fields)(am:SliceAt tGAttr K D k l q1.Nums)(hm:M.laws_foDoc F q0 q1=some r):
  Calls prog 43 #[.agg #[V6 q0.Id,V3 A a b,V3 B c d],.agg #[V6 q1.Id,V3 C f i,V3 D k l]] w (R_b w K r):=by
 rw [M.laws_foDoc] at hm
 refine ci func43 u ntmps43 (sr (bx u hS fun q bH az=>?_))
 have aA:SH _ _ _ _ _ [obj q [V6 q0.Id,V3 A a b,V3 B c d] 77]:=az
 refine bx u aA fun s bI aB=>?_
 have x:SH _ _ _ _ _ [obj s [V6 q1.Id,V3 C f i,V3 D k l] 77,_]:=aB
 refine lv (r_f u) (ns (wc_seq ?_))
 obtain⟨aC,aD,aE⟩:=ob hm
 refine wc_cutg (IV w K [] K [(2,pt q),(3,pt s),(29,.bool aC)] [obj q [V6 q0.Id,V3 A a b,V3 B c d] 77,obj s [V6 q1.Id,V3 C f i,V3 D k l] 77]) ?_ ?_
 ·refine wc_region (fl ff77_0 u tf3 m1 x u (fl ff77_0 u tf3 m0 x u (lv (rv_neq u u) (mv u (bt aD (fun m X=>?_) (fun m X=>?_))))))
  ·iterate 7 refine lu m ?_
   refine lv (p_t u m u) (mv u ?_)
   iterate 7 refine lu u ?_
   refine lv (p_t u u u) (wl_nil ?_)
   cases oi X
   exact qd ⟨K,u,x.f1,kr⟩
  refine lg m (rv_fieldAddr ff77_1 u) (lg m (rv_loadm1 tf74 u m1 x u) (lg m (rv_len underlying74 u V) (lg m (rv_fieldAddr ff77_1 u) (lg m (rv_loadm1 tf74 u m0 x u) (lg m (rv_len underlying74 u al) (lg m (rv_neq u u) (lv (rv_pick_f u m u) (mv u (bt X (fun o Y=>?_) (fun o Y=>?_))))))))))
  ·iterate 7 refine lu o ?_
   refine lv (p_t u o u) (wl_nil ?_)
   cases oi Y
   exact qd ⟨K,u,x.f1,kr⟩
  refine lg o (rv_fieldAddr ff77_2 u) (lg o (rv_loadm1 tf75 u m1 x u) (lg o (rv_len underlying75 u W) (lg o (rv_fieldAddr ff77_2 u) (lg o (rv_loadm1 tf75 u m0 x u) (lg o (rv_len underlying75 u am) (lg o (rv_neq u u) (lv (rv_pick_f u o u) (wl_nil ?_))))))))
  cases oi Y
  exact qd ⟨K,u,x.f1,kr⟩
 rintro _ bJ ⟨I,rfl,an,y⟩
 refine qe_seq (wcc aE u (fun aF aa=>?_) (fun aF aa=>?_))
 ·refine sr (lv (r_f u) (nq (rr ?_)))
  cases oi aa
  exact ey results43 ⟨I,u,an.s⟩
 refine wc_skip (qs (sr (lv (r_0 u) (nq ?_))))
 obtain⟨aG,aH,J⟩:=ob aa
 refine wc_cutg (IE aG w K [] I [(2,pt q),(3,pt s)] [obj q [V6 q0.Id,V3 A a b,V3 B c d] 77,obj s [V6 q1.Id,V3 C f i,V3 D k l] 77]) ?_ ?_
 ·refine wc_block ?_
  obtain⟨bK,aI,ao⟩:=ob aH
  refine qw (fun (ab:Int)=>IW w K [] I [(2,pt q),(3,pt s),(5,V6 ab)] [obj q [V6 q0.Id,V3 A a b,V3 B c d] 77,obj s [V6 q1.Id,V3 C f i,V3 D k l] 77] (rng64 ab)) aI ⟨I,u,an,kr,d_0⟩ ?_
  rintro ab _ bL bM aJ ap ⟨aK,rfl,ac,G,bN⟩
  refine wc_seq (sr (mv u (fl ff77_1 u tf74 m0 ac u (lv (rv_len underlying74 u (V.mono (y.trans G))) (lv (rv_lss u u) (nq (wcc aJ u (fun aL ad=>?_) (fun aL ad=>?_))))))))
  ·refine wc_skip (qs (wc_block (wc_seq (wc_quiet mixed (by kernel_rfl) ac (kv (rv_fieldAddr ff77_1 u) (kh (rq_loadm1 tf74 u m0 u) (km u ?_)))))))
   obtain⟨O,aM,aN⟩:=ob ad
   refine ki underlying74 tf108 (V.mono (y.trans G)) aM fun aO aP bO aQ aR=>?_
   obtain⟨rfl,bP,bQ⟩:=aQ
   have aS:AtK _ aO aP [sv O.Name,sv O.Text]:=aR
   refine kh (rq_loadS tf108 u aS u) (kv (rv_fieldAddr ff77_1 u) (kh (rq_loadm1 tf74 u m1 u) (km u ?_)))
   obtain⟨R,aT,aU⟩:=ob aN
   refine ki underlying74 tf108 (al.mono (y.trans G)) aT fun aV aW bR aX aY=>?_
   obtain⟨rfl,bS,bT⟩:=aX
   have aZ:AtK _ aV aW [sv R.Name,sv R.Text]:=aY
   refine kh (rq_loadS tf108 u aZ u) (kv (rv_neS eqg108 u u (eqs108 O.Name O.Text R.Name R.Text)) (wq_nil ?_))
   rintro bU ⟨aq,ar,ba⟩
   refine qe_seq (wcc aU u (fun bb ae=>?_) (fun bb ae=>?_))
   ·refine sr (lv (r_f u) (nq (wc_ret (qe_block_ret (qe_then_ret (qe_then_ret ?_))))))
    cases oi ae
    cases ap _ u
    refine qe_block_ret (qe_then_ret ?_)
    cases oi ao
    refine qe_then_ret ?_
    cases oi J
    exact ey results43 ⟨aq,u,ar.s⟩
   refine wc_skip (qe_block (qe_seq (wc_region (mv u (lv (rv_add u u) (av u (wl_nil ?_)))))))
   cases oi ae
   exact qd ⟨_,u,aq,u,ar,(G.trans ba),(w64_rng _)⟩
  refine wc_exit (qe_then_exit (qe_then_exit ?_))
  cases oi ad
  cases ap _ u
  refine qe_block_eq ?_
  cases oi ao
  exact qd ⟨_,aK,u,u,ac,G⟩
 rintro _ bV ⟨bW,af,rfl,rfl,bc,ag⟩
 have J:=elim_l J
 refine qs (sr (lv (r_0 u) (nq ?_)))
 obtain⟨bd,be,S⟩:=ob J
 refine wc_cutg (IE bd w K [] af [] []) ?_ ?_
 ·refine wc_block ?_
  obtain⟨bX,bf,au⟩:=ob be
  refine qw (fun (ah:Int)=>IW w K [] af [(2,pt q),(3,pt s),(6,V6 ah)] [obj q [V6 q0.Id,V3 A a b,V3 B c d] 77,obj s [V6 q1.Id,V3 C f i,V3 D k l] 77] (rng64 ah)) bf ⟨af,u,bc,kr,d_0⟩ ?_
  rintro ah _ bY bZ bg aw ⟨bh,rfl,ai,H,ca⟩
  refine wc_seq (sr (mv u (fl ff77_2 u tf75 m0 ai u (lv (rv_len underlying75 u (W.mono ((y.trans ag).trans H))) (lv (rv_lss u u) (nq (wcc bg u (fun bi aj=>?_) (fun bi aj=>?_))))))))
  ·refine wc_skip (qs (wc_block (wc_seq (wc_quiet mixed (by kernel_rfl) ai (kv (rv_fieldAddr ff77_2 u) (kh (rq_loadm1 tf75 u m0 u) (km u ?_)))))))
   obtain⟨T,bj,bk⟩:=ob aj
   refine ki underlying75 tf142 (W.mono ((y.trans ag).trans H)) bj fun bl bm cb bn bo=>?_
   obtain⟨rfl,cc,cd⟩:=bn
   have bp:AtK _ bl bm [sv T.Name,V6 T.Num]:=bo
   refine kh (rq_loadS tf142 u bp u) (kv (rv_fieldAddr ff77_2 u) (kh (rq_loadm1 tf75 u m1 u) (km u ?_)))
   obtain⟨U,bq,br⟩:=ob bk
   refine ki underlying75 tf142 (am.mono ((y.trans ag).trans H)) bq fun bs bu ce bv bz=>?_
   obtain⟨rfl,cf,cg⟩:=bv
   have bA:AtK _ bs bu [sv U.Name,V6 U.Num]:=bz
   refine kh (rq_loadS tf142 u bA u) (kv (rv_neS eqg142 u u (eqs142 T.Name T.Num U.Name U.Num)) (wq_nil ?_))
   rintro ch ⟨ax,ay,bB⟩
   refine qe_seq (wcc br u (fun bC ak=>?_) (fun bC ak=>?_))
   ·refine sr (lv (r_f u) (nq (wc_ret (qe_block_ret (qe_then_ret (qe_then_ret ?_))))))
    cases oi ak
    cases aw _ u
    refine qe_block_ret (qe_then_ret ?_)
    cases oi au
    refine qe_then_ret ?_
    cases oi S
    exact ey results43 ⟨ax,u,ay.s⟩
   refine wc_skip (qe_block (qe_seq (wc_region (mv u (lv (rv_add u u) (av u (wl_nil ?_)))))))
   cases oi ak
   exact qd ⟨_,u,ax,u,ay,(H.trans bB),(w64_rng _)⟩
  refine wc_exit (qe_then_exit (qe_then_exit ?_))
  cases oi aj
  cases aw _ u
  refine qe_block_eq ?_
  cases oi au
  exact qe_mid' ⟨_,bh,u,u,ai.s,H⟩ trivial
 rintro _ cj ⟨ck,bD,rfl,rfl,bE,cl⟩
 have S:=elim_l S
 refine qr (lv (r_t u) (nq (wc_ret ?_)))
 cases oi S
 exact ey results43 ⟨bD,u,bE⟩

theorem ok_laws_foFind {q0:List GDoc}{q1:Int}{r:GDoc}(hS:SH w K [] w K [])(D:SliceAt tGDoc K A a b q0)(aU:rng64 q1)(hm:M.laws_foFind F q0 q1=some r):
  Calls prog 44 #[V3 A a b,V6 q1] w fun e w'=>∃a_2 n_3 c_4 a_6 n_7 c_8 K',e= .returned (.agg #[V6 r.Id,V3 a_2 n_3 c_4,V3 a_6 n_7 c_8])∧SH w K [] w' K' []∧rng64 r.Id∧SliceAt tGField K' a_2 n_3 c_4 r.Fields∧SliceAt tGAttr K' a_6 n_7 c_8 r.Nums:=by
 rw [M.laws_foFind] at hm
 refine ci func44 u ntmps44 (sr (al tf77 hS fun k w7 aj=>?_))
 have ak:SH _ _ _ _ _ [obj k [V6 0,V3 none 0 0,V3 none 0 0] 77]:=aj
 refine nsr (lv (r_0 u) (nq ?_))
 obtain⟨am,an,C⟩:=ob hm
 refine wc_cutg (fun E' w'=>∃f G H I J O R i,am= .inl f∧E'=[(4,pt k)]∧SH w K [] w' i [obj k [V6 f.Id,V3 G H I,V3 J O R] 77]∧KLe K i∧rng64 f.Id∧SliceAt tGField i G H I f.Fields∧SliceAt tGAttr i J O R f.Nums) ?_ ?_
 ·refine wc_block ?_
  obtain⟨aW,ao,ab⟩:=ob an
  refine qw (fun (d:Int×GDoc) E' w'=>∃l m o q s x c,E'=[(0,V3 A a b),(1,V6 q1),(4,pt k),(5,V6 d.1)]∧SH w K [] w' c [obj k [V6 d.2.Id,V3 l m o,V3 q s x] 77]∧KLe K c∧rng64 d.1∧rng64 d.2.Id∧SliceAt tGField c l m o d.2.Fields∧SliceAt tGAttr c q s x d.2.Nums) ao ⟨none,0,0,none,0,0,K,u,ak,kr,d_0,d_0,(SliceAt.nil _ _),(SliceAt.nil _ _)⟩ ?_
  rintro d _ aX aY ap ac ⟨l,m,o,q,s,x,c,rfl,y,B,aZ,ad,ae,af⟩
  refine wc_seq (sr (mv u (mv u (lv (rv_len underlying43 u (D.mono B)) (lv (rv_lss u u) (nq (wcc ap u (fun aq S=>?_) (fun aq S=>?_))))))))
  ·refine wc_skip (qs (wc_block (sr (mv u (mv u ?_)))))
   obtain⟨ar,au,aw⟩:=ob S
   refine li underlying43 tf77 (D.mono B) au fun ax ay ba az aA=>?_
   obtain⟨aB,aC,aD,aE,aF,aG,rfl,bb,bc,bd⟩:=az
   have aH:AtK _ ax ay [V6 ar.Id,V3 aB aC aD,V3 aE aF aG]:=aA
   refine fa ff77_0 u (lv (rv_load1 tf3 u y (aH 0 _ u)) (mv u (lv (rv_eql u u) (nq (wcc aw u (fun aI T=>?_) (fun aI T=>?_))))))
   ·refine sr (mv u (mv u ?_))
    obtain⟨ag,aJ,aK⟩:=ob T
    refine li underlying43 tf77 (D.mono B) aJ fun aL aM be aN aO=>?_
    obtain⟨U,V,W,X,Y,aa,rfl,aP,aQ,aR⟩:=aN
    have aS:AtK _ aL aM [V6 ag.Id,V3 U V W,V3 X Y aa]:=aO
    refine lv (rv_loadS tf77 u y aS u) (lw [V6 ag.Id,V3 U V W,V3 X Y aa] tf77 y fun bf ah=>(nq (wc_ret (qe_block_ret (qe_then_ret (qe_then_ret ?_))))))
    cases oi aK
    cases ac _ u
    refine qe_block_ret (qe_then_ret ?_)
    cases oi ab
    refine qe_then_ret ?_
    cases oi C
    exact ez results44 tf77 ah m0 ⟨U,V,W,X,Y,aa,c,u,ah.s,aP,aQ,aR⟩
   refine wc_skip (qe_block (qe_seq (wc_region (mv u (lv (rv_add u u) (av u (wl_nil ?_)))))))
   cases oi T
   exact qd ⟨_,u,l,m,o,q,s,x,c,u,y,B,(w64_rng _),ad,ae,af⟩
  refine wc_exit (qe_then_exit (qe_then_exit ?_))
  cases oi S
  cases ac _ u
  refine qe_block_eq ?_
  cases oi ab
  exact qd ⟨_,l,m,o,q,s,x,c,u,u,y,B,ad,ae,af⟩
 rintro _ bg ⟨f,G,H,I,J,O,R,i,rfl,rfl,aT,bh,bi,bj,bk⟩
 have C:=elim_l C
 refine qr (lv (rv_build (cs:=#[V6 0,V3 none 0 0,V3 none 0 0]) sp77 tf77 u (by kernel_rfl)) (lw [V6 0,V3 none 0 0,V3 none 0 0] tf77 aT fun bl ai=>(nq (wc_ret ?_))))
 cases oi C
 exact ez results44 tf77 ai m0 ⟨none,0,0,none,0,0,i,u,ai.s,d_0,(SliceAt.nil _ _),(SliceAt.nil _ _)⟩

theorem ok_laws_foTexts {q0:List Str}{q1:List Str}{r:Bool}(hS:SH w K [] w K [])(k:SliceAt tStr K A a b q0)(x:SliceAt tStr K B c d q1)(hm:M.laws_foTexts F q0 q1=some r):
  Calls prog 175 #[V3 A a b,V3 B c d] w (R_b w K r):=by
 rw [M.laws_foTexts] at hm
 refine ci func175 u ntmps175 (sr (lv (r_f u) (nsr (mv u (lv (rv_len underlying22 u k) (mv u (lv (rv_len underlying22 u x) (lv (rv_neq u u) (nq ?_)))))))))
 refine wc_cond u (fun l=>?_) (fun l=>?_)
 ·have m:=cond_t l hm
  refine sr (lv (r_f u) (nq (rr ?_)))
  cases oi m
  exact ey results175 ⟨K,u,hS⟩
 have m:=cond_f l hm
 refine wc_skip (qs (sr (lv (r_0 u) (nq ?_))))
 obtain⟨I,J,i⟩:=ob m
 refine wc_cutg (IE I w K [] K [] []) ?_ ?_
 ·refine wc_block ?_
  obtain⟨ap,O,y⟩:=ob J
  refine qw (fun (o:Int)=>IW w K [] K [(0,V3 A a b),(1,V3 B c d),(5,V6 o)] [] (rng64 o)) O ⟨K,u,hS,kr,d_0⟩ ?_
  rintro o _ aq ar R C ⟨S,rfl,D,f,au⟩
  refine wc_seq (sr (mv u (mv u (lv (rv_len underlying22 u (k.mono f)) (lv (rv_lss u u) (nq (wcc R u (fun T q=>?_) (fun T q=>?_))))))))
  ·refine wc_skip (qs (wc_block (wc_seq (wc_quiet mixed (by kernel_rfl) D (km u (km u ?_))))))
   obtain⟨U,V,W⟩:=ob q
   refine ki underlying22 tf9 (k.mono f) V fun X Y aw aa ab=>?_
   obtain⟨rfl,ax⟩:=aa
   have ac:AtK _ X Y [sv U]:=ab
   refine kh (rq_load1 tf9 u (ac 0 _ u)) (km u (km u ?_))
   obtain⟨ad,ae,af⟩:=ob W
   refine ki underlying22 tf9 (x.mono f) ae fun ag ah ay ai aj=>?_
   obtain⟨rfl,az⟩:=ai
   have ak:AtK _ ag ah [sv ad]:=aj
   refine kh (rq_load1 tf9 u (ak 0 _ u)) (kv (rv_sneq u u) (wq_nil ?_))
   rintro aA ⟨G,H,al⟩
   refine qe_seq (wcc af u (fun am s=>?_) (fun am s=>?_))
   ·refine sr (lv (r_f u) (nq (wc_ret (qe_block_ret (qe_then_ret (qe_then_ret ?_))))))
    cases oi s
    cases C _ u
    refine qe_block_ret (qe_then_ret ?_)
    cases oi y
    refine qe_then_ret ?_
    cases oi i
    exact ey results175 ⟨G,u,H⟩
   refine wc_skip (qe_block (qe_seq (wc_region (mv u (lv (rv_add u u) (av u (wl_nil ?_)))))))
   cases oi s
   exact qd ⟨_,u,G,u,H,(f.trans al),(w64_rng _)⟩
  refine wc_exit (qe_then_exit (qe_then_exit ?_))
  cases oi q
  cases C _ u
  refine qe_block_eq ?_
  cases oi y
  exact qe_mid' ⟨_,S,u,u,D,f⟩ trivial
 rintro _ aB ⟨aC,an,rfl,rfl,ao,aD⟩
 have i:=elim_l i
 refine qr (lv (r_t u) (nq (wc_ret ?_)))
 cases oi i
 exact ey results175 ⟨an,u,ao⟩

theorem ok_laws_foConf {q0:GConf}{q1:GConf}{r:Bool}(hS:SH w K [] w K [])(aj:SliceAt tStr K A a b q0.Stops)(H:SliceAt tGSyn K B c d q0.Syns)(ak:SliceAt tStr K C f i q1.Stops)(T:SliceAt tGSyn K D k l q1.Syns)(hm:M.laws_foConf F q0 q1=some r):
  Calls prog 111 #[.agg #[V3 A a b,V3 B c d],.agg #[V3 C f i,V3 D k l]] w (R_b w K r):=by
 rw [M.laws_foConf] at hm
 refine ci func111 u ntmps111 (sr (bx u hS fun q bQ al=>?_))
 have am:SH _ _ _ _ _ [obj q [V3 A a b,V3 B c d] 33]:=al
 refine bx u am fun s bR an=>?_
 have I:SH _ _ _ _ _ [obj s [V3 C f i,V3 D k l] 33,_]:=an
 refine lv (r_f u) (ns (wc_seq ?_))
 obtain⟨ao,ap,aq⟩:=ob hm
 refine wc_cutg (IV w K [] K [(2,pt q),(3,pt s),(20,.bool ao)] [obj q [V3 A a b,V3 B c d] 33,obj s [V3 C f i,V3 D k l] 33]) ?_ ?_
 ·refine wc_region (fl ff33_0 u tf22 m1 I u (fl ff33_0 u tf22 m0 I u ?_))
  obtain⟨bS,ar,au⟩:=ob ap
  refine lk co175 (ok_laws_foTexts F I.enter0 aj ak ar) ?_
  rintro bT bU ⟨ab,rfl,y⟩
  have J:=(I.c0 y).t2
  refine lv (rv_not u) (mv u (bt au (fun o U=>?_) (fun o U=>?_)))
  ·iterate 7 refine lu o ?_
   refine lv (p_t u o u) (wl_nil ?_)
   cases oi U
   exact qd ⟨ab,u,J.f1,y.le⟩
  refine lg o (rv_fieldAddr ff33_1 u) (lg o (rv_loadm1 tf31 u m1 J u) (lg o (rv_len underlying31 u (H.mono y.le)) (lg o (rv_fieldAddr ff33_1 u) (lg o (rv_loadm1 tf31 u m0 J u) (lg o (rv_len underlying31 u (T.mono y.le)) (lg o (rv_neq u u) (lv (rv_pick_f u o u) (wl_nil ?_))))))))
  cases oi U
  exact qd ⟨ab,u,J.f1,y.le⟩
 rintro _ bV ⟨O,rfl,ac,G⟩
 refine qe_seq (wcc aq u (fun aw V=>?_) (fun aw V=>?_))
 ·refine sr (lv (r_f u) (nq (rr ?_)))
  cases oi V
  exact ey results111 ⟨O,u,ac.s⟩
 refine wc_skip (qs (sr (lv (r_0 u) (nq ?_))))
 obtain⟨ax,ay,R⟩:=ob V
 refine wc_cutg (IE ax w K [] O [] []) ?_ ?_
 ·refine wc_block ?_
  obtain⟨bW,az,ad⟩:=ob ay
  refine qw (fun (S:Int)=>IW w K [] O [(2,pt q),(3,pt s),(5,V6 S)] [obj q [V3 A a b,V3 B c d] 33,obj s [V3 C f i,V3 D k l] 33] (rng64 S)) az ⟨O,u,ac,kr,d_0⟩ ?_
  rintro S _ bX bY aA ae ⟨af,rfl,W,x,bZ⟩
  refine wc_seq (sr (mv u (fl ff33_1 u tf31 m0 W u (lv (rv_len underlying31 u (H.mono (G.trans x))) (lv (rv_lss u u) (nq (wcc aA u (fun aB X=>?_) (fun aB X=>?_))))))))
  ·refine wc_skip (qs (wc_block (wc_seq ?_)))
   obtain⟨aC,aD,aE⟩:=ob X
   refine wc_cutg (IV w K [] af [(2,pt q),(3,pt s),(5,V6 S),(56,.bool aC)] [obj q [V3 A a b,V3 B c d] 33,obj s [V3 C f i,V3 D k l] 33]) ?_ ?_
   ·refine wc_quiet mixed (by kernel_rfl) W (kv (rv_fieldAddr ff33_1 u) (kh (rq_loadm1 tf31 u m0 u) (km u ?_)))
    obtain⟨aF,aG,aH⟩:=ob aD
    refine ki underlying31 tf159 (H.mono (G.trans x)) aG fun aI aJ ca aK aL=>?_
    obtain⟨aM,aN,aO,rfl,cb,cc⟩:=aK
    have aP:AtK _ aI aJ [V3 aM aN aO,sv aF.To]:=aL
    refine kv (rv_fieldAddr ff159_1 u) (kh (rq_load1 tf9 u (aP 1 _ u)) (kv (rv_fieldAddr ff33_1 u) (kh (rq_loadm1 tf31 u m1 u) (km u ?_))))
    obtain⟨aQ,aR,aS⟩:=ob aH
    refine ki underlying31 tf159 (T.mono (G.trans x)) aR fun aT aU cd aV aW=>?_
    obtain⟨aX,aY,aZ,rfl,ce,cf⟩:=aV
    have ba:AtK _ aT aU [V3 aX aY aZ,sv aQ.To]:=aW
    refine kv (rv_fieldAddr ff159_1 u) (kh (rq_load1 tf9 u (ba 1 _ u)) (kv (rv_sneq u u) (km u (bt aS (fun m Y=>?_) (fun m Y=>?_)))))
    ·iterate 14 refine kn m ?_
     refine kv (p_t u m u) (wq_nil ?_)
     rintro cg ⟨bb,bc,bd⟩
     cases oi Y
     exact qd ⟨bb,u,bc,bd⟩
    refine kg m (rv_fieldAddr ff33_1 u) (kgh m (rq_loadm1 tf31 u m0 u) (kg m (rv_move u) ?_))
    obtain⟨be,bf,bg⟩:=ob Y
    refine wq_indexAddr (t:=tGSyn) (wg u u m) u underlying31 tf159 u u (H.mono (G.trans x)) bf fun bh bi ch bj bk=>?_
    obtain⟨bl,bm,bn,rfl,bo,cj⟩:=bj
    have bp:AtK _ bh bi [V3 bl bm bn,sv be.To]:=bk
    refine kg m (rv_fieldAddr ff159_0 u) (kgh m (rq_load1 tf22 u (bp 0 _ u)) (kg m (rv_fieldAddr ff33_1 u) (kgh m (rq_loadm1 tf31 u m1 u) (kg m (rv_move u) ?_))))
    obtain⟨bq,br,bs⟩:=ob bg
    refine wq_indexAddr (t:=tGSyn) (wg u u m) u underlying31 tf159 u u (T.mono (G.trans x)) br fun bu bv ck bz bA=>?_
    obtain⟨bB,bC,bD,rfl,bE,cl⟩:=bz
    have bF:AtK _ bu bv [V3 bB bC bD,sv bq.To]:=bA
    refine kg m (rv_fieldAddr ff159_0 u) (kgh m (rq_load1 tf22 u (bF 0 _ u)) ?_)
    obtain⟨cm,bG,bH⟩:=ob bs
    refine kcg m co175 (fun _ _ bI ag=>(ok_laws_foTexts F) bI.enter0 (bo.mono ag) (bE.mono ag) bG) (kg m (rv_not u) (kv (rv_pick_f u m u) (wq_nil ?_)))
    rintro cn ⟨bJ,bK,bL⟩
    cases oi bH
    exact qd ⟨bJ,u,bK,bL⟩
   rintro _ cp ⟨ah,rfl,ai,bM⟩
   refine qe_seq (wcc aE u (fun bN aa=>?_) (fun bN aa=>?_))
   ·refine sr (lv (r_f u) (nq (wc_ret (qe_block_ret (qe_then_ret (qe_then_ret ?_))))))
    cases oi aa
    cases ae _ u
    refine qe_block_ret (qe_then_ret ?_)
    cases oi ad
    refine qe_then_ret ?_
    cases oi R
    exact ey results111 ⟨ah,u,ai.s⟩
   refine wc_skip (qe_block (qe_seq (wc_region (mv u (lv (rv_add u u) (av u (wl_nil ?_)))))))
   cases oi aa
   exact qd ⟨_,u,ah,u,ai,(x.trans bM),(w64_rng _)⟩
  refine wc_exit (qe_then_exit (qe_then_exit ?_))
  cases oi X
  cases ae _ u
  refine qe_block_eq ?_
  cases oi ad
  exact qe_mid' ⟨_,af,u,u,W.s,x⟩ trivial
 rintro _ cq ⟨cr,bO,rfl,rfl,bP,cs⟩
 have R:=elim_l R
 refine qr (lv (r_t u) (nq (wc_ret ?_)))
 cases oi R
 exact ey results111 ⟨bO,u,bP⟩

theorem ok_laws_foDocs {q0:List GDoc}{q1:List GDoc}{r:Bool}(hS:SH w K [] w K [])(l:SliceAt tGDoc K A a b q0)(y:SliceAt tGDoc K B c d q1)(hm:M.laws_foDocs F q0 q1=some r):
  Calls prog 41 #[V3 A a b,V3 B c d] w (R_b w K r):=by
 rw [M.laws_foDocs] at hm
 refine ci func41 u ntmps41 (sr (lv (r_f u) (nsr (mv u (lv (rv_len underlying43 u l) (mv u (lv (rv_len underlying43 u y) (lv (rv_neq u u) (nq ?_)))))))))
 refine wc_cond u (fun m=>?_) (fun m=>?_)
 ·have o:=cond_t m hm
  refine sr (lv (r_f u) (nq (rr ?_)))
  cases oi o
  exact ey results41 ⟨K,u,hS⟩
 have o:=cond_f m hm
 refine wc_skip (qs (sr (lv (r_0 u) (nq ?_))))
 obtain⟨J,O,i⟩:=ob o
 refine wc_cutg (IE J w K [] K [] []) ?_ ?_
 ·refine wc_block ?_
  obtain⟨aO,R,C⟩:=ob O
  refine qw (fun (q:Int)=>IW w K [] K [(0,V3 A a b),(1,V3 B c d),(5,V6 q)] [] (rng64 q)) R ⟨K,u,hS,kr,d_0⟩ ?_
  rintro q _ aP aQ S D ⟨T,rfl,G,f,aR⟩
  refine wc_seq (sr (mv u (mv u (lv (rv_len underlying43 u (l.mono f)) (lv (rv_lss u u) (nq (wcc S u (fun U s=>?_) (fun U s=>?_))))))))
  ·refine wc_skip (qs (wc_block (wc_seq (wc_quiet mixed (by kernel_rfl) G (km u (km u ?_))))))
   obtain⟨V,W,X⟩:=ob s
   refine ki underlying43 tf77 (l.mono f) W fun Y aa aS ab ac=>?_
   obtain⟨ad,ae,af,ag,ah,ai,rfl,aj,ak,al⟩:=ab
   have am:AtK _ Y aa [V6 V.Id,V3 ad ae af,V3 ag ah ai]:=ac
   refine kh (rq_loadS tf77 u am u) (km u (km u ?_))
   obtain⟨an,ao,ap⟩:=ob X
   refine ki underlying43 tf77 (y.mono f) ao fun aq ar aT au aw=>?_
   obtain⟨ax,ay,az,aA,aB,aC,rfl,aD,aE,aF⟩:=au
   have aG:AtK _ aq ar [V6 an.Id,V3 ax ay az,V3 aA aB aC]:=aw
   refine kh (rq_loadS tf77 u aG u) ?_
   obtain⟨aU,aH,aI⟩:=ob ap
   refine kc co43 (fun _ _ aJ k=>(ok_laws_foDoc F) aJ.enter0 aj (ak.mono k) (al.mono k) aD (aE.mono k) (aF.mono k) aH) (kv (rv_not u) (wq_nil ?_))
   rintro aV ⟨H,I,aK⟩
   refine qe_seq (wcc aI u (fun aL x=>?_) (fun aL x=>?_))
   ·refine sr (lv (r_f u) (nq (wc_ret (qe_block_ret (qe_then_ret (qe_then_ret ?_))))))
    cases oi x
    cases D _ u
    refine qe_block_ret (qe_then_ret ?_)
    cases oi C
    refine qe_then_ret ?_
    cases oi i
    exact ey results41 ⟨H,u,I⟩
   refine wc_skip (qe_block (qe_seq (wc_region (mv u (lv (rv_add u u) (av u (wl_nil ?_)))))))
   cases oi x
   exact qd ⟨_,u,H,u,I,(f.trans aK),(w64_rng _)⟩
  refine wc_exit (qe_then_exit (qe_then_exit ?_))
  cases oi s
  cases D _ u
  refine qe_block_eq ?_
  cases oi C
  exact qe_mid' ⟨_,T,u,u,G,f⟩ trivial
 rintro _ aW ⟨aX,aM,rfl,rfl,aN,aY⟩
 have i:=elim_l i
 refine qr (lv (r_t u) (nq (wc_ret ?_)))
 cases oi i
 exact ey results41 ⟨aM,u,aN⟩

theorem ok_laws_foInts {q0:List Int}{q1:List Int}{r:Bool}(hS:SH w K [] w K [])(k:SliceAt tInt K A a b q0)(x:SliceAt tInt K B c d q1)(hm:M.laws_foInts F q0 q1=some r):
  Calls prog 177 #[V3 A a b,V3 B c d] w (R_b w K r):=by
 rw [M.laws_foInts] at hm
 refine ci func177 u ntmps177 (sr (lv (r_f u) (nsr (mv u (lv (rv_len underlying71 u k) (mv u (lv (rv_len underlying71 u x) (lv (rv_neq u u) (nq ?_)))))))))
 refine wc_cond u (fun l=>?_) (fun l=>?_)
 ·have m:=cond_t l hm
  refine sr (lv (r_f u) (nq (rr ?_)))
  cases oi m
  exact ey results177 ⟨K,u,hS⟩
 have m:=cond_f l hm
 refine wc_skip (qs (sr (lv (r_0 u) (nq ?_))))
 obtain⟨I,J,i⟩:=ob m
 refine wc_cutg (IE I w K [] K [] []) ?_ ?_
 ·refine wc_block ?_
  obtain⟨ap,O,y⟩:=ob J
  refine qw (fun (o:Int)=>IW w K [] K [(0,V3 A a b),(1,V3 B c d),(5,V6 o)] [] (rng64 o)) O ⟨K,u,hS,kr,d_0⟩ ?_
  rintro o _ aq ar R C ⟨S,rfl,D,f,au⟩
  refine wc_seq (sr (mv u (mv u (lv (rv_len underlying71 u (k.mono f)) (lv (rv_lss u u) (nq (wcc R u (fun T q=>?_) (fun T q=>?_))))))))
  ·refine wc_skip (qs (wc_block (wc_seq (wc_quiet mixed (by kernel_rfl) D (km u (km u ?_))))))
   obtain⟨U,V,W⟩:=ob q
   refine ki underlying71 tf3 (k.mono f) V fun X Y aw aa ab=>?_
   obtain⟨rfl,ax⟩:=aa
   have ac:AtK _ X Y [V6 U]:=ab
   refine kh (rq_load1 tf3 u (ac 0 _ u)) (km u (km u ?_))
   obtain⟨ad,ae,af⟩:=ob W
   refine ki underlying71 tf3 (x.mono f) ae fun ag ah ay ai aj=>?_
   obtain⟨rfl,az⟩:=ai
   have ak:AtK _ ag ah [V6 ad]:=aj
   refine kh (rq_load1 tf3 u (ak 0 _ u)) (kv (rv_neq u u) (wq_nil ?_))
   rintro aA ⟨G,H,al⟩
   refine qe_seq (wcc af u (fun am s=>?_) (fun am s=>?_))
   ·refine sr (lv (r_f u) (nq (wc_ret (qe_block_ret (qe_then_ret (qe_then_ret ?_))))))
    cases oi s
    cases C _ u
    refine qe_block_ret (qe_then_ret ?_)
    cases oi y
    refine qe_then_ret ?_
    cases oi i
    exact ey results177 ⟨G,u,H⟩
   refine wc_skip (qe_block (qe_seq (wc_region (mv u (lv (rv_add u u) (av u (wl_nil ?_)))))))
   cases oi s
   exact qd ⟨_,u,G,u,H,(f.trans al),(w64_rng _)⟩
  refine wc_exit (qe_then_exit (qe_then_exit ?_))
  cases oi q
  cases C _ u
  refine qe_block_eq ?_
  cases oi y
  exact qe_mid' ⟨_,S,u,u,D,f⟩ trivial
 rintro _ aB ⟨aC,an,rfl,rfl,ao,aD⟩
 have i:=elim_l i
 refine qr (lv (r_t u) (nq (wc_ret ?_)))
 cases oi i
 exact ey results177 ⟨an,u,ao⟩

theorem ok_laws_foPosts {q0:List GPost}{q1:List GPost}{r:Bool}(hS:SH w K [] w K [])(k:SliceAt tGPost K A a b q0)(o:SliceAt tGPost K B c d q1)(hm:M.laws_foPosts F q0 q1=some r):
  Calls prog 222 #[V3 A a b,V3 B c d] w (R_b w K r):=by
 rw [M.laws_foPosts] at hm
 refine ci func222 u ntmps222 (sr (lv (r_f u) (nsr (mv u (lv (rv_len underlying61 u k) (mv u (lv (rv_len underlying61 u o) (lv (rv_neq u u) (nq ?_)))))))))
 refine wc_cond u (fun q=>?_) (fun q=>?_)
 ·have s:=cond_t q hm
  refine sr (lv (r_f u) (nq (rr ?_)))
  cases oi s
  exact ey results222 ⟨K,u,hS⟩
 have s:=cond_f q hm
 refine wc_skip (qs (sr (lv (r_0 u) (nq ?_))))
 obtain⟨S,T,l⟩:=ob s
 refine wc_cutg (IE S w K [] K [] []) ?_ ?_
 ·refine wc_block ?_
  obtain⟨bl,U,D⟩:=ob T
  refine qw (fun (m:Int)=>IW w K [] K [(0,V3 A a b),(1,V3 B c d),(5,V6 m)] [] (rng64 m)) U ⟨K,u,hS,kr,d_0⟩ ?_
  rintro m _ bm bn V G ⟨H,rfl,I,i,bo⟩
  refine wc_seq (sr (mv u (mv u (lv (rv_len underlying61 u (k.mono i)) (lv (rv_lss u u) (nq (wcc V u (fun W x=>?_) (fun W x=>?_))))))))
  ·refine wc_skip (qs (wc_block (wc_seq ?_)))
   obtain⟨X,Y,aa⟩:=ob x
   refine wc_cutg (IV w K [] H [(0,V3 A a b),(1,V3 B c d),(5,V6 m),(41,.bool X)] []) ?_ ?_
   ·refine wc_quiet mixed (by kernel_rfl) I (km u (km u ?_))
    obtain⟨ab,ac,ad⟩:=ob Y
    refine ki underlying61 tf134 (k.mono i) ac fun ae af bp ag ah=>?_
    obtain⟨ai,aj,ak,rfl,bq,br⟩:=ag
    have al:AtK _ ae af [V6 ab.Doc,V3 ai aj ak]:=ah
    refine kv (rv_fieldAddr ff134_0 u) (kh (rq_load1 tf3 u (al 0 _ u)) (km u (km u ?_)))
    obtain⟨am,an,ao⟩:=ob ad
    refine ki underlying61 tf134 (o.mono i) an fun ap aq bs ar au=>?_
    obtain⟨aw,ax,ay,rfl,bu,bv⟩:=ar
    have az:AtK _ ap aq [V6 am.Doc,V3 aw ax ay]:=au
    refine kv (rv_fieldAddr ff134_0 u) (kh (rq_load1 tf3 u (az 0 _ u)) (kv (rv_neq u u) (km u (bt ao (fun f y=>?_) (fun f y=>?_)))))
    ·iterate 12 refine kn f ?_
     refine kv (p_t u f u) (wq_nil ?_)
     rintro bx ⟨aA,aB,aC⟩
     cases oi y
     exact qd ⟨aA,u,aB,aC⟩
    refine kg f (rv_move u) (kg f (rv_move u) ?_)
    obtain⟨aD,aE,aF⟩:=ob y
    refine wq_indexAddr (t:=tGPost) (wg u u f) u underlying61 tf134 u u (k.mono i) aE fun aG aH bz aI aJ=>?_
    obtain⟨aK,aL,aM,rfl,bA,aN⟩:=aI
    have aO:AtK _ aG aH [V6 aD.Doc,V3 aK aL aM]:=aJ
    refine kg f (rv_fieldAddr ff134_1 u) (kgh f (rq_load1 tf71 u (aO 1 _ u)) (kg f (rv_move u) (kg f (rv_move u) ?_)))
    obtain⟨aP,aQ,aR⟩:=ob aF
    refine wq_indexAddr (t:=tGPost) (wg u u f) u underlying61 tf134 u u (o.mono i) aQ fun aS aT bB aU aV=>?_
    obtain⟨aW,aX,aY,rfl,bC,aZ⟩:=aU
    have ba:AtK _ aS aT [V6 aP.Doc,V3 aW aX aY]:=aV
    refine kg f (rv_fieldAddr ff134_1 u) (kgh f (rq_load1 tf71 u (ba 1 _ u)) ?_)
    obtain⟨bD,bb,bc⟩:=ob aR
    refine kcg f co177 (fun _ _ bd J=>(ok_laws_foInts F) bd.enter0 (aN.mono J) (aZ.mono J) bb) (kg f (rv_not u) (kv (rv_pick_f u f u) (wq_nil ?_)))
    rintro bE ⟨be,bf,bg⟩
    cases oi bc
    exact qd ⟨be,u,bf,bg⟩
   rintro _ bF ⟨O,rfl,R,bh⟩
   refine qe_seq (wcc aa u (fun bi C=>?_) (fun bi C=>?_))
   ·refine sr (lv (r_f u) (nq (wc_ret (qe_block_ret (qe_then_ret (qe_then_ret ?_))))))
    cases oi C
    cases G _ u
    refine qe_block_ret (qe_then_ret ?_)
    cases oi D
    refine qe_then_ret ?_
    cases oi l
    exact ey results222 ⟨O,u,R⟩
   refine wc_skip (qe_block (qe_seq (wc_region (mv u (lv (rv_add u u) (av u (wl_nil ?_)))))))
   cases oi C
   exact qd ⟨_,u,O,u,R,(i.trans bh),(w64_rng _)⟩
  refine wc_exit (qe_then_exit (qe_then_exit ?_))
  cases oi x
  cases G _ u
  refine qe_block_eq ?_
  cases oi D
  exact qe_mid' ⟨_,H,u,u,I,i⟩ trivial
 rintro _ bG ⟨bH,bj,rfl,rfl,bk,bI⟩
 have l:=elim_l l
 refine qr (lv (r_t u) (nq (wc_ret ?_)))
 cases oi l
 exact ey results222 ⟨bj,u,bk⟩

theorem ok_laws_foSeg {q0:GSeg}{q1:GSeg}{r:Bool}(hS:SH w K [] w K [])(ar:SliceAt tGDoc K A a b q0.Docs)(H:SliceAt tGEntry K B c d q0.Entries)(au:SliceAt tGDoc K C f i q1.Docs)(J:SliceAt tGEntry K D k l q1.Entries)(hm:M.laws_foSeg F q0 q1=some r):
  Calls prog 176 #[.agg #[V3 A a b,V3 B c d],.agg #[V3 C f i,V3 D k l]] w (R_b w K r):=by
 rw [M.laws_foSeg] at hm
 refine ci func176 u ntmps176 (sr (bx u hS fun x ct aw=>?_))
 have ax:SH _ _ _ _ _ [obj x [V3 A a b,V3 B c d] 46]:=aw
 refine bx u ax fun y cu ay=>?_
 have O:SH _ _ _ _ _ [obj y [V3 C f i,V3 D k l] 46,_]:=ay
 refine lv (r_f u) (ns (wc_seq ?_))
 obtain⟨az,aA,aB⟩:=ob hm
 refine wc_cutg (IV w K [] K [(2,pt x),(3,pt y),(20,.bool az)] [obj x [V3 A a b,V3 B c d] 46,obj y [V3 C f i,V3 D k l] 46]) ?_ ?_
 ·refine wc_region (fl ff46_0 u tf43 m1 O u (fl ff46_0 u tf43 m0 O u ?_))
  obtain⟨cv,aC,aD⟩:=ob aA
  refine lk co41 (ok_laws_foDocs F O.enter0 ar au aC) ?_
  rintro cw cx ⟨ad,rfl,I⟩
  have R:=(O.c0 I).t2
  refine lv (rv_not u) (mv u (bt aD (fun q V=>?_) (fun q V=>?_)))
  ·iterate 7 refine lu q ?_
   refine lv (p_t u q u) (wl_nil ?_)
   cases oi V
   exact qd ⟨ad,u,R.f1,I.le⟩
  refine lg q (rv_fieldAddr ff46_1 u) (lg q (rv_loadm1 tf44 u m1 R u) (lg q (rv_len underlying44 u (H.mono I.le)) (lg q (rv_fieldAddr ff46_1 u) (lg q (rv_loadm1 tf44 u m0 R u) (lg q (rv_len underlying44 u (J.mono I.le)) (lg q (rv_neq u u) (lv (rv_pick_f u q u) (wl_nil ?_))))))))
  cases oi V
  exact qd ⟨ad,u,R.f1,I.le⟩
 rintro _ cy ⟨S,rfl,ae,G⟩
 refine qe_seq (wcc aB u (fun aE W=>?_) (fun aE W=>?_))
 ·refine sr (lv (r_f u) (nq (rr ?_)))
  cases oi W
  exact ey results176 ⟨S,u,ae.s⟩
 refine wc_skip (qs (sr (lv (r_0 u) (nq ?_))))
 obtain⟨aF,aG,T⟩:=ob W
 refine wc_cutg (IE aF w K [] S [] []) ?_ ?_
 ·refine wc_block ?_
  obtain⟨cz,aH,af⟩:=ob aG
  refine qw (fun (U:Int)=>IW w K [] S [(2,pt x),(3,pt y),(5,V6 U)] [obj x [V3 A a b,V3 B c d] 46,obj y [V3 C f i,V3 D k l] 46] (rng64 U)) aH ⟨S,u,ae,kr,d_0⟩ ?_
  rintro U _ cA cB aI ag ⟨ah,rfl,X,s,cC⟩
  refine wc_seq (sr (mv u (fl ff46_1 u tf44 m0 X u (lv (rv_len underlying44 u (H.mono (G.trans s))) (lv (rv_lss u u) (nq (wcc aI u (fun aJ Y=>?_) (fun aJ Y=>?_))))))))
  ·refine wc_skip (qs (wc_block (wc_seq ?_)))
   obtain⟨aK,aL,aM⟩:=ob Y
   refine wc_cutg (IV w K [] ah [(2,pt x),(3,pt y),(5,V6 U),(71,.bool aK)] [obj x [V3 A a b,V3 B c d] 46,obj y [V3 C f i,V3 D k l] 46]) ?_ ?_
   ·refine wc_quiet mixed (by kernel_rfl) X (kv (rv_fieldAddr ff46_1 u) (kh (rq_loadm1 tf44 u m0 u) (km u ?_)))
    obtain⟨ai,aN,aO⟩:=ob aL
    refine ki underlying44 tf116 (H.mono (G.trans s)) aN fun aP aQ cD aR aS=>?_
    obtain⟨aT,aU,aV,rfl,cE,cF,cG⟩:=aR
    have aW:AtK _ aP aQ [sv ai.Field,sv ai.Term,V3 aT aU aV]:=aS
    refine kv (rv_fieldAddr ff116_0 u) (kh (rq_load1 tf9 u (aW 0 _ u)) (kv (rv_fieldAddr ff46_1 u) (kh (rq_loadm1 tf44 u m1 u) (km u ?_))))
    obtain⟨aj,aX,aY⟩:=ob aO
    refine ki underlying44 tf116 (J.mono (G.trans s)) aX fun aZ ba cH bb bc=>?_
    obtain⟨bd,be,bf,rfl,cI,cJ,cK⟩:=bb
    have bg:AtK _ aZ ba [sv aj.Field,sv aj.Term,V3 bd be bf]:=bc
    refine kv (rv_fieldAddr ff116_0 u) (kh (rq_load1 tf9 u (bg 0 _ u)) (kv (rv_sneq u u) (km u (bt aY (fun o aa=>?_) (fun o aa=>?_)))))
    ·iterate 13 refine kn o ?_
     refine kv (p_t u o u) (km u ?_)
     iterate 14 refine qv u u u u ?_
     refine kv (p_t u u u) (wq_nil ?_)
     rintro cL ⟨bh,bi,bj⟩
     cases oi aa
     exact qd ⟨bh,u,bi,bj⟩
    refine kg o (rv_fieldAddr ff46_1 u) (kgh o (rq_loadm1 tf44 u m0 u) (kg o (rv_move u) ?_))
    obtain⟨ak,bk,bl⟩:=ob aa
    refine wq_indexAddr (t:=tGEntry) (wg u u o) u underlying44 tf116 u u (H.mono (G.trans s)) bk fun bm bn cM bo bp=>?_
    obtain⟨bq,br,bs,rfl,cN,cO,cP⟩:=bo
    have bu:AtK _ bm bn [sv ak.Field,sv ak.Term,V3 bq br bs]:=bp
    refine kg o (rv_fieldAddr ff116_1 u) (kgh o (rq_load1 tf9 u (bu 1 _ u)) (kg o (rv_fieldAddr ff46_1 u) (kgh o (rq_loadm1 tf44 u m1 u) (kg o (rv_move u) ?_))))
    obtain⟨al,bv,bz⟩:=ob bl
    refine wq_indexAddr (t:=tGEntry) (wg u u o) u underlying44 tf116 u u (J.mono (G.trans s)) bv fun bA bB cQ bC bD=>?_
    obtain⟨bE,bF,bG,rfl,cR,cS,cT⟩:=bC
    have bH:AtK _ bA bB [sv al.Field,sv al.Term,V3 bE bF bG]:=bD
    refine kg o (rv_fieldAddr ff116_1 u) (kgh o (rq_load1 tf9 u (bH 1 _ u)) (kg o (rv_sneq u u) (kv (rv_pick_f u o u) (km u (bt bz (fun m ab=>?_) (fun m ab=>?_))))))
    ·iterate 14 refine kn m ?_
     refine kv (p_t u m u) (wq_nil ?_)
     rintro cU ⟨bI,bJ,bK⟩
     cases oi ab
     exact qd ⟨bI,u,bJ,bK⟩
    refine kg m (rv_fieldAddr ff46_1 u) (kgh m (rq_loadm1 tf44 u m0 u) (kg m (rv_move u) ?_))
    obtain⟨am,bL,bM⟩:=ob ab
    refine wq_indexAddr (t:=tGEntry) (wg u u m) u underlying44 tf116 u u (H.mono (G.trans s)) bL fun bN bO cV bP bQ=>?_
    obtain⟨bR,bS,bT,rfl,cW,cX,bU⟩:=bP
    have bV:AtK _ bN bO [sv am.Field,sv am.Term,V3 bR bS bT]:=bQ
    refine kg m (rv_fieldAddr ff116_2 u) (kgh m (rq_load1 tf61 u (bV 2 _ u)) (kg m (rv_fieldAddr ff46_1 u) (kgh m (rq_loadm1 tf44 u m1 u) (kg m (rv_move u) ?_))))
    obtain⟨an,bW,bX⟩:=ob bM
    refine wq_indexAddr (t:=tGEntry) (wg u u m) u underlying44 tf116 u u (J.mono (G.trans s)) bW fun bY bZ cY ca cb=>?_
    obtain⟨cc,cd,ce,rfl,cZ,da,cf⟩:=ca
    have cg:AtK _ bY bZ [sv an.Field,sv an.Term,V3 cc cd ce]:=cb
    refine kg m (rv_fieldAddr ff116_2 u) (kgh m (rq_load1 tf61 u (cg 2 _ u)) ?_)
    obtain⟨db,ch,cj⟩:=ob bX
    refine kcg m co222 (fun _ _ ck ao=>(ok_laws_foPosts F) ck.enter0 (bU.mono ao) (cf.mono ao) ch) (kg m (rv_not u) (kv (rv_pick_f u m u) (wq_nil ?_)))
    rintro dc ⟨cl,cm,cn⟩
    cases oi cj
    exact qd ⟨cl,u,cm,cn⟩
   rintro _ dd ⟨ap,rfl,aq,cp⟩
   refine qe_seq (wcc aM u (fun cq ac=>?_) (fun cq ac=>?_))
   ·refine sr (lv (r_f u) (nq (wc_ret (qe_block_ret (qe_then_ret (qe_then_ret ?_))))))
    cases oi ac
    cases ag _ u
    refine qe_block_ret (qe_then_ret ?_)
    cases oi af
    refine qe_then_ret ?_
    cases oi T
    exact ey results176 ⟨ap,u,aq.s⟩
   refine wc_skip (qe_block (qe_seq (wc_region (mv u (lv (rv_add u u) (av u (wl_nil ?_)))))))
   cases oi ac
   exact qd ⟨_,u,ap,u,aq,(s.trans cp),(w64_rng _)⟩
  refine wc_exit (qe_then_exit (qe_then_exit ?_))
  cases oi Y
  cases ag _ u
  refine qe_block_eq ?_
  cases oi af
  exact qe_mid' ⟨_,ah,u,u,X.s,s⟩ trivial
 rintro _ de ⟨df,cr,rfl,rfl,cs,dg⟩
 have T:=elim_l T
 refine qr (lv (r_t u) (nq (wc_ret ?_)))
 cases oi T
 exact ey results176 ⟨cr,u,cs⟩

theorem ok_laws_foLive {q0:GLive}{q1:GLive}{r:Bool}(hS:SH w K [] w K [])(J:SliceAt tGDoc K A a b q0.Seg.Docs)(O:SliceAt tGEntry K B c d q0.Seg.Entries)(R:SliceAt tInt K C f i q0.Dead)(S:SliceAt tGDoc K D k l q1.Seg.Docs)(T:SliceAt tGEntry K G m n q1.Seg.Entries)(U:SliceAt tInt K H o p q1.Dead)(hm:M.laws_foLive F q0 q1=some r):
  Calls prog 112 #[.agg #[V3 A a b,V3 B c d,V3 C f i],.agg #[V3 D k l,V3 G m n,V3 H o p]] w (R_b w K r):=by
 rw [M.laws_foLive] at hm
 refine ci func112 u ntmps112 (sr (bx u hS fun V aj W=>?_))
 have X:SH _ _ _ _ _ [obj V [V3 A a b,V3 B c d,V3 C f i] 73]:=W
 refine bx u X fun Y ak aa=>?_
 have x:SH _ _ _ _ _ [obj Y [V3 D k l,V3 G m n,V3 H o p] 73,_]:=aa
 refine lv (r_f u) (nr (fa ff73_0 u (lv (rv_loadmS (ds:=[V3 A a b,V3 B c d]) tf46 u m1 x u u) (fa ff73_0 u (lv (rv_loadmS (ds:=[V3 D k l,V3 G m n]) tf46 u m0 x u u) ?_)))))
 obtain⟨al,ab,ac⟩:=ob hm
 refine lk co176 (ok_laws_foSeg F x.enter0 J O S T ab) ?_
 rintro am an ⟨ad,rfl,y⟩
 have s:=(x.c0 y).t2
 refine mv u (bt ac (fun q I=>?_) (fun q I=>?_))
 ·refine lg q (rv_fieldAddr ff73_1 u) (lg q (rv_loadm1 tf71 u m1 s u) (lg q (rv_fieldAddr ff73_1 u) (lg q (rv_loadm1 tf71 u m0 s u) ?_)))
  obtain⟨ao,ae,af⟩:=ob I
  refine wl_call (wg u u q) u (rt_call (vs:=[V3 C f i,V3 H o p]) co177 u) (ok_laws_foInts F s.enter0 (R.mono y.le) (U.mono y.le) ae) ?_
  rintro ap aq ⟨ag,rfl,ah⟩
  refine⟨_,u,?_⟩
  have ai:=(s.c0 ah).t2
  refine lv (rv_pick_t u q u) (av u (nq (wc_ret ?_)))
  cases oi af
  exact ey results112 ⟨ag,u,ai.s⟩
 iterate 5 refine lu q ?_
 refine lv (p_f u q u) (av u (nq (wc_ret ?_)))
 cases oi I
 exact ey results112 ⟨ad,u,s.s⟩

theorem ok_laws_foIndex {q0:GIndex}{q1:GIndex}{r:Bool}(hS:SH w K [] w K [])(ak:SliceAt tStr K A a b q0.Conf.Stops)(al:SliceAt tGSyn K B c d q0.Conf.Syns)(U:SliceAt tGLive K C f i q0.Segs)(am:SliceAt tStr K D k l q1.Conf.Stops)(an:SliceAt tGSyn K G m n q1.Conf.Syns)(ad:SliceAt tGLive K H o p q1.Segs)(hm:M.laws_foIndex F q0 q1=some r):
  Calls prog 49 #[.agg #[V3 A a b,V3 B c d,V3 C f i],.agg #[V3 D k l,V3 G m n,V3 H o p]] w (R_b w K r):=by
 rw [M.laws_foIndex] at hm
 refine ci func49 u ntmps49 (sr (bx u hS fun x bD ao=>?_))
 have ap:SH _ _ _ _ _ [obj x [V3 A a b,V3 B c d,V3 C f i] 36]:=ao
 refine bx u ap fun y bE aq=>?_
 have O:SH _ _ _ _ _ [obj y [V3 D k l,V3 G m n,V3 H o p] 36,_]:=aq
 refine lv (r_f u) (ns (wc_seq ?_))
 obtain⟨ar,au,aw⟩:=ob hm
 refine wc_cutg (IV w K [] K [(2,pt x),(3,pt y),(20,.bool ar)] [obj x [V3 A a b,V3 B c d,V3 C f i] 36,obj y [V3 D k l,V3 G m n,V3 H o p] 36]) ?_ ?_
 ·refine wc_region (fa ff36_0 u (lv (rv_loadmS (ds:=[V3 A a b,V3 B c d]) tf33 u m1 O u u) (fa ff36_0 u (lv (rv_loadmS (ds:=[V3 D k l,V3 G m n]) tf33 u m0 O u u) ?_))))
  obtain⟨bF,ax,ay⟩:=ob au
  refine lk co111 (ok_laws_foConf F O.enter0 ak al am an ax) ?_
  rintro bG bH ⟨ae,rfl,I⟩
  have R:=(O.c0 I).t2
  refine lv (rv_not u) (mv u (bt ay (fun q V=>?_) (fun q V=>?_)))
  ·iterate 7 refine lu q ?_
   refine lv (p_t u q u) (wl_nil ?_)
   cases oi V
   exact qd ⟨ae,u,R.f1,I.le⟩
  refine lg q (rv_fieldAddr ff36_1 u) (lg q (rv_loadm1 tf34 u m1 R u) (lg q (rv_len underlying34 u (U.mono I.le)) (lg q (rv_fieldAddr ff36_1 u) (lg q (rv_loadm1 tf34 u m0 R u) (lg q (rv_len underlying34 u (ad.mono I.le)) (lg q (rv_neq u u) (lv (rv_pick_f u q u) (wl_nil ?_))))))))
  cases oi V
  exact qd ⟨ae,u,R.f1,I.le⟩
 rintro _ bI ⟨S,rfl,af,W⟩
 refine qe_seq (wcc aw u (fun az X=>?_) (fun az X=>?_))
 ·refine sr (lv (r_f u) (nq (rr ?_)))
  cases oi X
  exact ey results49 ⟨S,u,af.s⟩
 refine wc_skip (qs (sr (lv (r_0 u) (nq ?_))))
 obtain⟨aA,aB,T⟩:=ob X
 refine wc_cutg (IE aA w K [] S [] []) ?_ ?_
 ·refine wc_block ?_
  obtain⟨bJ,aC,ag⟩:=ob aB
  refine qw (fun (Y:Int)=>IW w K [] S [(2,pt x),(3,pt y),(5,V6 Y)] [obj x [V3 A a b,V3 B c d,V3 C f i] 36,obj y [V3 D k l,V3 G m n,V3 H o p] 36] (rng64 Y)) aC ⟨S,u,af,kr,d_0⟩ ?_
  rintro Y _ bK bL aD ah ⟨aE,rfl,aa,J,bM⟩
  refine wc_seq (sr (mv u (fl ff36_1 u tf34 m0 aa u (lv (rv_len underlying34 u (U.mono (W.trans J))) (lv (rv_lss u u) (nq (wcc aD u (fun aF ab=>?_) (fun aF ab=>?_))))))))
  ·refine wc_skip (qs (wc_block (wc_seq (wc_quiet mixed (by kernel_rfl) aa (kv (rv_fieldAddr ff36_1 u) (kh (rq_loadm1 tf34 u m0 u) (km u ?_)))))))
   obtain⟨bN,aG,aH⟩:=ob ab
   refine ki underlying34 tf73 (U.mono (W.trans J)) aG fun aI aJ bO aK aL=>?_
   obtain⟨aM,aN,aO,aP,aQ,aR,aS,aT,aU,rfl,aV,aW,aX⟩:=aK
   have aY:AtK _ aI aJ [V3 aM aN aO,V3 aP aQ aR,V3 aS aT aU]:=aL
   refine kh (rq_loadS tf73 u aY u) (kv (rv_fieldAddr ff36_1 u) (kh (rq_loadm1 tf34 u m1 u) (km u ?_)))
   obtain⟨bP,aZ,ba⟩:=ob aH
   refine ki underlying34 tf73 (ad.mono (W.trans J)) aZ fun bb bc bQ bd be=>?_
   obtain⟨bf,bg,bh,bi,bj,bk,bl,bm,bn,rfl,bo,bp,bq⟩:=bd
   have br:AtK _ bb bc [V3 bf bg bh,V3 bi bj bk,V3 bl bm bn]:=be
   refine kh (rq_loadS tf73 u br u) ?_
   obtain⟨bR,bs,bu⟩:=ob ba
   refine kc co112 (fun _ _ bv s=>(ok_laws_foLive F) bv.enter0 (aV.mono s) (aW.mono s) (aX.mono s) (bo.mono s) (bp.mono s) (bq.mono s) bs) (kv (rv_not u) (wq_nil ?_))
   rintro bS ⟨ai,aj,bz⟩
   refine qe_seq (wcc bu u (fun bA ac=>?_) (fun bA ac=>?_))
   ·refine sr (lv (r_f u) (nq (wc_ret (qe_block_ret (qe_then_ret (qe_then_ret ?_))))))
    cases oi ac
    cases ah _ u
    refine qe_block_ret (qe_then_ret ?_)
    cases oi ag
    refine qe_then_ret ?_
    cases oi T
    exact ey results49 ⟨ai,u,aj.s⟩
   refine wc_skip (qe_block (qe_seq (wc_region (mv u (lv (rv_add u u) (av u (wl_nil ?_)))))))
   cases oi ac
   exact qd ⟨_,u,ai,u,aj,(J.trans bz),(w64_rng _)⟩
  refine wc_exit (qe_then_exit (qe_then_exit ?_))
  cases oi ab
  cases ah _ u
  refine qe_block_eq ?_
  cases oi ag
  exact qe_mid' ⟨_,aE,u,u,aa.s,J⟩ trivial
 rintro _ bT ⟨bU,bB,rfl,rfl,bC,bV⟩
 have T:=elim_l T
 refine qr (lv (r_t u) (nq (wc_ret ?_)))
 cases oi T
 exact ey results49 ⟨bB,u,bC⟩

theorem ok_spec_l30Rd_pick {q0:GL30Rd}{q1:Int}{r:Int×GL30Rd}(hS:SH w K Z w K [obj g1 [V3 A a b,V6 q0.p_] 208])(c:SliceAt tU8 K A a b q0.b_)(aF:rng64 q0.p_)(aG:rng64 q1)(hm:M.spec_l30Rd_pick F q0 q1=some r):
  Calls prog 106 #[.pointer (some ⟨g1,0,none⟩),V6 q1] w fun e w'=>∃a_2 n_3 c_4 K',e= .returned (V6 r.1)∧SH w K Z w' K' [obj g1 [V3 a_2 n_3 c_4,V6 r.2.p_] 208]∧rng64 r.1∧SliceAt tU8 K' a_2 n_3 c_4 r.2.b_∧rng64 r.2.p_:=by
 rw [M.spec_l30Rd_pick] at hm
 refine ci func106 u ntmps106 (sr (lv (r_0 u) (nr (mv u (mv u (lv (rv_nilCheck u) (fl ff208_1 u tf3 m0 hS u (lv (rv_add u u) (lv (rv_nilCheck u) ?_)))))))))
 refine fa ff208_1 u (ls [V3 A a b,V6 (w64 (q0.p_+(1:Int)))] (V6 (w64 (q0.p_+(1:Int)))) tf3 hS fun w9 k=>(ns (wc_seq ?_)))
 obtain⟨y,B,C⟩:=ob hm
 refine wc_cutg (IV w K Z K [(0,pt g1),(1,V6 q1),(24,.bool y)] [obj g1 [V3 A a b,V6 (w64 (q0.p_+(1:Int)))] 208]) ?_ ?_
 ·refine wc_region (mv u (lv (rv_lss u u) (mv u (bt B (fun d l=>?_) (fun d l=>?_)))))
  ·iterate 6 refine lu d ?_
   refine lv (p_t u d u) (wl_nil ?_)
   cases oi l
   exact qd ⟨K,u,k,kr⟩
  refine lg d (rv_move u) (lg d (rv_nilCheck u) (lg d (rv_fieldAddr ff208_0 u) (lg d (rv_loadm1 tf69 u m0 k u) (lg d (rv_len underlying69 u c) (lg d (rv_eql u u) (lv (rv_pick_f u d u) (wl_nil ?_)))))))
  cases oi l
  exact qd ⟨K,u,k,kr⟩
 rintro _ aI ⟨q,rfl,i,f⟩
 refine qe_seq (wcc C u (fun D m=>?_) (fun D m=>?_))
 ·refine sr (lv (r_0 u) (nq (rr ?_)))
  cases oi m
  exact ey results106 ⟨A,a,b,q,u,i,d_0,(c.mono f),(w64_rng _)⟩
 refine wc_skip (qr (mv u (lv (rv_nilCheck u) (fl ff208_1 u tf3 m0 i u (lv (rv_sub u u) (av u (nsr (mv u (mv u ?_)))))))))
 refine lv (rv_nilCheck u) (fl ff208_0 u tf69 m0 i u (lv (rv_len underlying69 u (c.mono f)) (lv (rv_lss u u) (nq (wcc m u (fun G o=>?_) (fun G o=>?_))))))
 ·refine sr (mv u (lv (rv_nilCheck u) (fl ff208_0 u tf69 m0 i u (mv u ?_))))
  obtain⟨H,I,J⟩:=ob o
  refine li underlying69 tf5 (c.mono f) I fun O R aJ S T=>?_
  obtain rfl:=S
  have U:AtK _ O R [iv8 H]:=T
  refine lv (rv_load1 tf5 u i (U 0 _ u)) (lv (rv_b2i underlying5 underlying3 u) (mv u ?_))
  obtain⟨aK,s,V⟩:=ob J
  refine lv (rv_rem u u s) (av u (nq (rr ?_)))
  cases oi V
  exact ey results106 ⟨A,a,b,q,u,i,(rng_rem (rng_u8 _) s),(c.mono f),(w64_rng _)⟩
 refine wc_skip (qs (wc_quiet mixed (by kernel_rfl) i (km u (kv (rv_nilCheck u) (kv (rv_fieldAddr ff208_0 u) (kh (rq_loadm1 tf69 u m0 u) (km u (km u (kv (rv_nilCheck u) ?_)))))))))
 refine kv (rv_fieldAddr ff208_0 u) (kh (rq_loadm1 tf69 u m0 u) (kv (rv_len underlying69 u (c.mono f)) ?_))
 obtain⟨aL,W,X⟩:=ob o
 refine kv (rv_rem u u W) ?_
 obtain⟨Y,aa,ab⟩:=ob X
 refine ki underlying69 tf5 (c.mono f) aa fun ac ad aM ae af=>?_
 obtain rfl:=ae
 have ag:AtK _ ac ad [iv8 Y]:=af
 refine kh (rq_load1 tf5 u (ag 0 _ u)) (kv (rv_b2i underlying5 underlying3 u) (kv (rv_mul u u) (km u (kv (rv_nilCheck u) (kv (rv_fieldAddr ff208_0 u) (kh (rq_loadm1 tf69 u m0 u) (km u (kv (rv_mul u u) (kv (rv_add u u) ?_)))))))))
 refine km u (kv (rv_nilCheck u) (kv (rv_fieldAddr ff208_0 u) (kh (rq_loadm1 tf69 u m0 u) (kv (rv_len underlying69 u (c.mono f)) ?_))))
 obtain⟨aN,ah,ai⟩:=ob ab
 refine kv (rv_rem u u ah) ?_
 obtain⟨aj,ak,al⟩:=ob ai
 refine ki underlying69 tf5 (c.mono f) ak fun am an aO ao ap=>?_
 obtain rfl:=ao
 have aq:AtK _ am an [iv8 aj]:=ap
 refine kh (rq_load1 tf5 u (aq 0 _ u)) (kv (rv_b2i underlying5 underlying3 u) (kv (rv_mul u u) (kv (rv_add u u) (km u (kv (rv_mul u u) (kv (rv_add u u) (km u (km u (kv (rv_nilCheck u) ?_)))))))))
 refine kv (rv_fieldAddr ff208_0 u) (kh (rq_loadm1 tf69 u m0 u) (kv (rv_len underlying69 u (c.mono f)) ?_))
 obtain⟨aP,ar,au⟩:=ob al
 refine kv (rv_quo u u ar) (kv (rv_mul u u) (kv (rv_add u u) ?_))
 obtain⟨aQ,aw,ax⟩:=ob au
 have ay:=oi aw
 refine kv (rv_as u (congrArg (Value.int .i64) ay)) (wq_nil ?_)
 rintro aR ⟨az,aA,aB⟩
 refine qr (mv u (mv u ?_))
 obtain⟨aS,aC,aD⟩:=ob ax
 refine lv (rv_quo u u aC) (lv (rv_xor u u) (av u (nr (mv u (mv u ?_)))))
 obtain⟨aT,x,aE⟩:=ob aD
 refine lv (rv_rem u u x) (av u (nq (wc_ret ?_)))
 cases oi aE
 exact ey results106 ⟨A,a,b,az,u,aA,(rng_rem (w64_rng _) x),(c.mono (f.trans aB)),(w64_rng _)⟩

theorem ok_spec_l18CopyConf {q0:GConf}{r:GConf}(hS:SH w K [] w K [])(aE:SliceAt tStr K A a b q0.Stops)(ai:SliceAt tGSyn K B c d q0.Syns)(hm:M.spec_l18CopyConf F q0=some r):
  Calls prog 173 #[.agg #[V3 A a b,V3 B c d]] w fun e w'=>∃a_1 n_2 c_3 a_5 n_6 c_7 K',e= .returned (.agg #[V3 a_1 n_2 c_3,V3 a_5 n_6 c_7])∧SH w K [] w' K' [tail (V3 a_1 n_2 c_3) 9 1,tail (V3 a_5 n_6 c_7) 159 2]∧SliceAt tStr K' a_1 n_2 c_3 r.Stops∧SliceAt tGSyn K' a_5 n_6 c_7 r.Syns:=by
 rw [M.spec_l18CopyConf] at hm
 refine ci func173 u ntmps173 (sr (bx u hS fun W bM aF=>?_))
 have aG:SH _ _ _ _ _ [obj W [V3 A a b,V3 B c d] 33]:=aF
 refine al tf33 aG fun S bN aH=>?_
 have aI:SH _ _ _ _ _ [obj S [V3 none 0 0,V3 none 0 0] 33,_]:=aH
 refine nr (b0 tStr underlying22 tf9 aI fun bO bP bQ X aJ ay=>(fl ff33_0 u tf22 m2 ay u ?_))
 obtain⟨bR,aK,aL⟩:=ob hm
 refine lp underlying22 tf9 aJ (aE.mono X) aK ay fun aj ak am bS an ao aM aN=>(lv (rv_build (cs:=#[V3 aj ak am,V3 none 0 0]) sp33 tf33 u (by kernel_rfl)) (al tf33 aN fun G bT aO=>?_))
 have aP:SH _ _ _ _ _ [obj G [V3 none 0 0,V3 none 0 0] 33,_,_,_]:=aO
 refine lw [V3 aj ak am,V3 none 0 0] tf33 aP fun bU aQ=>(nsr (lv (r_0 u) (nq ?_)))
 obtain⟨az,aR,aS⟩:=ob aL
 refine wc_cutg (fun E' w'=>∃m o q s x y H,E'=[(2,pt S),(3,pt G)]∧SH w K [] w' H [obj S [V3 none 0 0,V3 none 0 0] 33,obj G [V3 m o q,V3 s x y] 33,tail (V3 m o q) 9 1,tail (V3 s x y) 159 2]∧KLe an H∧SliceAt tStr H m o q az.Stops∧SliceAt tGSyn H s x y az.Syns) ?_ ?_
 ·refine wc_block ?_
  obtain⟨bV,aT,aU⟩:=ob aR
  have aV:=aQ.nil 159 2
  refine qw (fun (T:Int×GConf) E' w'=>∃i k l I J O C,E'=[(1,pt W),(2,pt S),(3,pt G),(4,V6 T.1)]∧SH w K [] w' C [obj W [V3 A a b,V3 B c d] 33,obj S [V3 none 0 0,V3 none 0 0] 33,obj G [V3 i k l,V3 I J O] 33,tail (V3 i k l) 9 1,tail (V3 I J O) 159 2]∧KLe an C∧rng64 T.1∧SliceAt tStr C i k l T.2.Stops∧SliceAt tGSyn C I J O T.2.Syns) aT ⟨aj,ak,am,none,0,0,an,u,aV.f2.f2.f3.f4,kr,d_0,aM,(SliceAt.nil _ _)⟩ ?_
  rintro T _ bW bX aW aX ⟨i,k,l,I,J,O,C,rfl,ap,U,bY,aA,aB⟩
  refine wc_seq (sr (mv u (fl ff33_1 u tf31 m0 ap u (lv (rv_len underlying31 u (ai.mono ((X.trans ao).trans U))) (lv (rv_lss u u) (nq (wcc aW u (fun aY aq=>?_) (fun aY aq=>?_))))))))
  ·refine wc_skip (qs (wc_block ?_))
   have Y:=ap.drew
   refine wj0 (fun w'=>Holds C w'∧HasObj W [V3 A a b,V3 B c d] w') (fun w'=>HasObj G [V3 i k l,V3 I J O] w') 20 [(1,18),(1,19),(1,20),(18,19),(18,20),(19,20)] mixed ⟨Y.hasK kr,Y.hasObj m0⟩ (fun _=>Y.hasObj (.tail _ (.tail _ (.head _)))) (jv 0 u (rv_fieldAddr ff33_1 u) (jf 1 u (fun _ h=>rh_loadm1 tf31 u u h) (jv 3 u (rv_fieldAddr ff33_1 u) (jh 4 u (fun _ h=>rh_loadm1 tf31 u u h.2) (jv 5 u (rv_move u) ?_)))))
   obtain⟨aZ,ba,bb⟩:=ob aq
   refine ji 6 u underlying31 tf159 (ai.mono ((X.trans ao).trans U)) ba fun bc bd bZ be bf=>?_
   obtain⟨bg,bh,bi,rfl,bj,ca⟩:=be
   have bk:AtK _ bc bd [V3 bg bh bi,sv aZ.To]:=bf
   refine jv 7 u (rv_fieldAddr ff159_0 u) (jh 8 u (fun _ h=>rh_load1 tf22 u (bk 0 _ u) h.1) (jv 10 u (rv_fieldAddr ff33_1 u) (jh 11 u (fun _ h=>rh_loadm1 tf31 u u h.2) (jv 12 u (rv_move u) ?_))))
   obtain⟨V,bl,bm⟩:=ob bb
   refine ji 13 u underlying31 tf159 (ai.mono ((X.trans ao).trans U)) bl fun bn bo cb bp bq=>?_
   obtain⟨br,bs,bu,rfl,cc,bv⟩:=bp
   have bz:AtK _ bn bo [V3 br bs bu,sv V.To]:=bq
   refine jv 14 u (rv_fieldAddr ff159_1 u) (jh 15 u (fun _ h=>rh_load1 tf9 u (bz 1 _ u) h.1) (j1 2 u (b0 tStr underlying22 tf9 Y fun cd ce cf f bA aa=>(jn ⟨aa.hasK f,aa.hasObj m1⟩ (fun _=>aa.hasObj (.tail _ (.tail _ (.tail _ (.head _))))) (j1 9 u ?_)))))
   obtain⟨bB,bC,bD⟩:=ob bm
   refine lp underlying22 tf9 bA (bj.mono f) bC aa fun ab ac ad cg ch D bE ae=>(jn ⟨ae.hasK (f.trans D),ae.hasObj m1⟩ (fun _=>ae.hasObj (.tail _ (.tail _ (.tail _ (.head _))))) (jv 16 u (rv_build (cs:=#[V3 ab ac ad,sv V.To]) sp159 tf159 u (by kernel_rfl)) (j1 17 u (lb tGSyn (.agg #[V3 ab ac ad,sv V.To]) [V3 ab ac ad,sv V.To] (GSyn.mk bB V.To) underlying31 tf159 ⟨ab,ac,ad,u,bE,bv⟩ ae fun cj ck cl R bF af=>(jn ⟨af.hasK ((f.trans D).trans R),af.hasObj m2⟩ (fun _=>af.hasObj (.tail _ (.tail _ (.tail _ (.tail _ (.head _)))))) (j1 18 u ?_))))))
   obtain⟨cm,bG,bH⟩:=ob bD
   refine lp underlying31 tf159 (aB.mono ((f.trans D).trans R)) bF bG af.f6 fun ar au aw cn bI ag bJ ah=>(jn ⟨ah.hasK (((f.trans D).trans R).trans ag),ah.hasObj m3⟩ (fun _=>ah.hasObj (.tail _ (.tail _ (.tail _ (.tail _ (.tail _ (.head _))))))) (jv 19 u (rv_fieldAddr ff33_1 u) (j1 20 u (ls [V3 i k l,V3 ar au aw] (V3 ar au aw) tf31 ah.f5 fun cp ax=>(jn ⟨ax.hasK (((f.trans D).trans R).trans ag),ax.hasObj m4⟩ (fun h=>nomatch h) (jd (qe_block (qe_seq (wc_region ?_)))))))))
   refine mv u (lv (rv_add u u) (av u (wl_nil ?_)))
   cases oi bH
   exact qd ⟨_,u,i,k,l,ar,au,aw,bI,u,ax.f1.f6.f2.f6.f6.s,((((U.trans f).trans D).trans R).trans ag),(w64_rng _),(SliceAt.mono (((f.trans D).trans R).trans ag) aA),bJ⟩
  refine wc_exit (qe_then_exit (qe_then_exit ?_))
  cases oi aq
  cases aX _ u
  refine qe_block_eq ?_
  cases oi aU
  exact qd ⟨i,k,l,I,J,O,C,u,ap.s,U,aA,aB⟩
 rintro _ cq ⟨m,o,q,s,x,y,H,rfl,aC,cr,bK,bL⟩
 refine qr (lv (rv_loadmS (ds:=[V3 m o q,V3 s x y]) tf33 u m1 aC u u) (lw [V3 m o q,V3 s x y] tf33 aC fun ct aD=>(nq (wc_ret ?_))))
 cases oi aS
 exact ez results173 tf33 aD m0 ⟨m,o,q,s,x,y,H,u,aD.s,bK,bL⟩

theorem ok_spec_l7CopyPosts {q0:List GPost}{r:(List GPost)}(hS:SH w K [] w K [])(I:SliceAt tGPost K A a b q0)(hm:M.spec_l7CopyPosts F q0=some r):
  Calls prog 91 #[V3 A a b] w fun e w'=>∃a_1 n_2 c_3 K',e= .returned (V3 a_1 n_2 c_3)∧SH w K [] w' K' [tail (V3 a_1 n_2 c_3) 134 2]∧SliceAt tGPost K' a_1 n_2 c_3 r:=by
 rw [M.spec_l7CopyPosts] at hm
 refine ci func91 u ntmps91 (sr (lv (r_n u) (nr (b0 tGPost underlying61 tf134 hS fun a5 w6 J O ac ad=>(av u (nsr (lv (r_0 u) (nq ?_))))))))
 obtain⟨ae,af,ag⟩:=ob hm
 refine wc_cutg (fun E' w'=>∃f i k l,E'=[(3,V3 f i k)]∧SH w K [] w' l [tail (V3 f i k) 134 2]∧KLe J l∧SliceAt tGPost l f i k ae) ?_ ?_
 ·refine wc_block ?_
  obtain⟨bc,ah,ai⟩:=ob af
  refine qw (fun (B:(List GPost)×Int) E' w'=>∃m o q d,E'=[(0,V3 A a b),(3,V3 m o q),(4,V6 B.2)]∧SH w K [] w' d [tail (V3 m o q) 134 2]∧KLe J d∧SliceAt tGPost d m o q B.1∧rng64 B.2) ah ⟨a5,0,0,J,u,ad,kr,ac,d_0⟩ ?_
  rintro B _ bd be aj ak ⟨m,o,q,d,rfl,S,s,T,bf⟩
  refine wc_seq (sr (mv u (mv u (lv (rv_len underlying61 u (I.mono (O.trans s))) (lv (rv_lss u u) (nq (wcc aj u (fun al R=>?_) (fun al R=>?_))))))))
  ·refine wc_skip (qs (wc_block ?_))
   have U:=S.drew
   refine wj0 (fun w'=>Holds d w') (fun w'=>True) 17 [] mixed (U.hasK kr) (fun _=>trivial) (jv 0 u (rv_move u) (jv 1 u (rv_move u) (jv 2 u (rv_move u) ?_)))
   obtain⟨x,am,an⟩:=ob R
   refine ji 3 u underlying61 tf134 (I.mono (O.trans s)) am fun ao ap bg aq ar=>?_
   obtain⟨au,aw,ax,rfl,ay,bh⟩:=aq
   have az:AtK _ ao ap [V6 x.Doc,V3 au aw ax]:=ar
   refine jv 4 u (rv_fieldAddr ff134_0 u) (jh 5 u (fun _ h=>rh_load1 tf3 u (az 0 _ u) h) (jv 7 u (rv_move u) (jv 8 u (rv_move u) ?_)))
   obtain⟨aA,aB,aC⟩:=ob an
   refine ji 9 u underlying61 tf134 (I.mono (O.trans s)) aB fun aD aE bi aF aG=>?_
   obtain⟨aH,aI,aJ,rfl,bj,aK⟩:=aF
   have aL:AtK _ aD aE [V6 aA.Doc,V3 aH aI aJ]:=aG
   refine jv 10 u (rv_fieldAddr ff134_1 u) (jh 11 u (fun _ h=>rh_load1 tf71 u (aL 1 _ u) h) (j1 6 u (b0 tInt underlying71 tf3 U fun bk bl bm c aM V=>(jn (V.hasK c) (fun _=>trivial) (j1 12 u ?_)))))
   obtain⟨aN,aO,aP⟩:=ob aC
   refine lp underlying71 tf3 aM (aK.mono c) aO V fun C D G bn bo y aQ W=>(jn (W.hasK (c.trans y)) (fun _=>trivial) (jv 13 u (rv_build (cs:=#[V6 x.Doc,V3 C D G]) sp134 tf134 u (by kernel_rfl)) (j1 14 u (lb tGPost (.agg #[V6 x.Doc,V3 C D G]) [V6 x.Doc,V3 C D G] (GPost.mk x.Doc aN) underlying61 tf134 ⟨C,D,G,u,ay,aQ⟩ W fun bp bq br H aR X=>(jn (X.hasK ((c.trans y).trans H)) (fun _=>trivial) (j1 15 u ?_))))))
   obtain⟨bs,aS,aT⟩:=ob aP
   refine lp underlying61 tf134 (T.mono ((c.trans y).trans H)) aR aS X.f2 fun aU aV aW bu aX Y aY aa=>(jn (aa.hasK (((c.trans y).trans H).trans Y)) (fun _=>trivial) (jv 16 u (rv_assign u) (jd (qe_block (qe_seq (wc_region (mv u (lv (rv_add u u) (av u ?_)))))))))
   refine wl_nil ?_
   cases oi aT
   exact qd ⟨_,u,aU,aV,aW,aX,u,aa.s,((((s.trans c).trans y).trans H).trans Y),aY,(w64_rng _)⟩
  refine wc_exit (qe_then_exit (qe_then_exit ?_))
  cases oi R
  cases ak _ u
  refine qe_block_eq ?_
  cases oi ai
  exact qd ⟨m,o,q,d,u,S,s,T⟩
 rintro _ bv ⟨f,i,k,l,rfl,aZ,bx,ba⟩
 refine qr (mv u (av u (nq (wc_ret ?_))))
 cases oi ag
 exact ey results91 ⟨f,i,k,l,u,aZ,ba⟩

theorem ok_spec_l18CopySeg {q0:GSeg}{r:GSeg}(hS:SH w K [] w K [])(bc:SliceAt tGDoc K A a b q0.Docs)(bd:SliceAt tGEntry K B c d q0.Entries)(hm:M.spec_l18CopySeg F q0=some r):
  Calls prog 174 #[.agg #[V3 A a b,V3 B c d]] w fun e w'=>∃a_1 n_2 c_3 a_5 n_6 c_7 K',e= .returned (.agg #[V3 a_1 n_2 c_3,V3 a_5 n_6 c_7])∧SH w K [] w' K' [tail (V3 a_1 n_2 c_3) 77 3,tail (V3 a_5 n_6 c_7) 116 3]∧SliceAt tGDoc K' a_1 n_2 c_3 r.Docs∧SliceAt tGEntry K' a_5 n_6 c_7 r.Entries:=by
 rw [M.spec_l18CopySeg] at hm
 refine ci func174 u ntmps174 (sr (bx u hS fun l cU bz=>?_))
 have bA:SH _ _ _ _ _ [obj l [V3 A a b,V3 B c d] 46]:=bz
 refine al tf46 bA fun k cV bB=>?_
 have bC:SH _ _ _ _ _ [obj k [V3 none 0 0,V3 none 0 0] 46,_]:=bB
 refine nr (lv (rv_build (cs:=#[V3 none 0 0,V3 none 0 0]) sp46 tf46 u (by kernel_rfl)) (al tf46 bC fun i cW bD=>?_))
 have bE:SH _ _ _ _ _ [obj i [V3 none 0 0,V3 none 0 0] 46,_,_]:=bD
 refine lw [V3 none 0 0,V3 none 0 0] tf46 bE fun cX bF=>(nsr (lv (r_0 u) (nq ?_)))
 obtain⟨be,bG,bH⟩:=ob hm
 refine wc_cutg (fun E' w'=>∃af ag ah ai aj ak m,E'=[(1,pt l),(2,pt k),(3,pt i)]∧SH w K [] w' m [obj l [V3 A a b,V3 B c d] 46,obj k [V3 none 0 0,V3 none 0 0] 46,obj i [V3 af ag ah,V3 ai aj ak] 46,tail (V3 af ag ah) 77 3,tail (V3 ai aj ak) 116 3]∧KLe K m∧SliceAt tGDoc m af ag ah be.Docs∧SliceAt tGEntry m ai aj ak be.Entries) ?_ ?_
 ·refine wc_block ?_
  obtain⟨cY,bI,bJ⟩:=ob bG
  have bK:=bF.nil 77 3
  have bL:=bK.nil 116 3
  refine qw (fun (am:Int×GSeg) E' w'=>∃V W X o q s H,E'=[(1,pt l),(2,pt k),(3,pt i),(4,V6 am.1)]∧SH w K [] w' H [obj l [V3 A a b,V3 B c d] 46,obj k [V3 none 0 0,V3 none 0 0] 46,obj i [V3 V W X,V3 o q s] 46,tail (V3 V W X) 77 3,tail (V3 o q s) 116 3]∧KLe K H∧rng64 am.1∧SliceAt tGDoc H V W X am.2.Docs∧SliceAt tGEntry H o q s am.2.Entries) bI ⟨none,0,0,none,0,0,K,u,bL.f1.f2.f3.f4,kr,d_0,(SliceAt.nil _ _),(SliceAt.nil _ _)⟩ ?_
  rintro am _ cZ da bM bN ⟨V,W,X,o,q,s,H,rfl,aH,ar,db,bf,bg⟩
  refine wc_seq (sr (mv u (fl ff46_0 u tf43 m0 aH u (lv (rv_len underlying43 u (bc.mono ar)) (lv (rv_lss u u) (nq (wcc bM u (fun bO aI=>?_) (fun bO aI=>?_))))))))
  ·refine wc_skip (qs (wc_block ?_))
   have an:=aH.drew
   refine wh1 (fun w'=>Holds H w'∧HasObj l [V3 A a b,V3 B c d] w') (fun w'=>HasObj i [V3 V W X,V3 o q s] w') 11 [(1,9),(1,10),(1,11),(9,10),(9,11),(10,11)] mixed ⟨an.hasK kr,an.hasObj m0⟩ (fun _=>an.hasObj (.tail _ (.tail _ (.head _)))) (gt (rv_fieldAddr ff46_0 u) (gf (fun _ h=>rh_loadm1 tf43 u u h) (gt (rv_fieldAddr ff46_0 u) (gh (fun _ h=>rh_loadm1 tf43 u u h.2) (gt (rv_move u) ?_)))))
   obtain⟨bh,bP,bQ⟩:=ob aI
   refine gi underlying43 tf77 (bc.mono ar) bP fun bR bS dc bT bU=>?_
   obtain⟨bi,bj,bk,bl,bm,bn,rfl,bV,bW,bX⟩:=bT
   have bY:AtK _ bR bS [V6 bh.Id,V3 bi bj bk,V3 bl bm bn]:=bU
   refine gh (fun _ h=>rh_loadS (cs:=[V6 bh.Id,V3 bi bj bk,V3 bl bm bn]) tf77 u bY u h.1) (gn ?_)
   obtain⟨aJ,bZ,ca⟩:=ob bQ
   refine lk co143 (ok_spec_l7CopyDoc F an.enter0 bV bW bX bZ) ?_
   rintro dd de ⟨aK,aL,aM,aN,aO,aP,df,rfl,x,cb,cc,cd⟩
   have au:=(an.c0 x).t7
   refine wl_nil (qh ⟨au.hasK x.le,au.hasObj m2⟩ (fun _=>au.hasObj (.tail _ (.tail _ (.tail _ (.tail _ (.head _)))))) (gn (lb tGDoc (.agg #[V6 aJ.Id,V3 aK aL aM,V3 aN aO aP]) [V6 aJ.Id,V3 aK aL aM,V3 aN aO aP] aJ underlying43 tf77 ⟨aK,aL,aM,aN,aO,aP,u,cb,cc,cd⟩ au fun dg dh di Y ce aw=>(wl_nil (qh ⟨aw.hasK (x.le.trans Y),aw.hasObj m3⟩ (fun _=>aw.hasObj (.tail _ (.tail _ (.tail _ (.tail _ (.tail _ (.head _))))))) (gn ?_))))))
   obtain⟨dj,cf,cg⟩:=ob ca
   refine lp underlying43 tf77 (bf.mono (x.le.trans Y)) ce cf aw.f6 fun aQ aR aS dk ch ax cj ay=>(wl_nil (qh ⟨ay.hasK ((x.le.trans Y).trans ax),ay.hasObj m4⟩ (fun _=>ay.hasObj (.tail _ (.tail _ (.tail _ (.tail _ (.tail _ (.tail _ (.head _)))))))) (gt (rv_fieldAddr ff46_0 u) (gn (ls [V3 aQ aR aS,V3 o q s] (V3 aQ aR aS) tf43 ay.f6 fun dl aT=>(wl_nil (qh ⟨aT.hasK ((x.le.trans Y).trans ax),aT.hasObj m5⟩ (fun h=>nomatch h) (gd' (qe_block (qe_seq (wc_region ?_)))))))))))
   refine mv u (lv (rv_add u u) (av u (wl_nil ?_)))
   cases oi cg
   exact qd ⟨_,u,aQ,aR,aS,o,q,s,ch,u,aT.f7.f2.f2.f7.f7.s,(((ar.trans x.le).trans Y).trans ax),(w64_rng _),cj,(bg.mono ((x.le.trans Y).trans ax))⟩
  refine wc_exit (qe_then_exit (qe_then_exit ?_))
  cases oi aI
  cases bN _ u
  refine qe_block_eq ?_
  cases oi bJ
  exact qd ⟨V,W,X,o,q,s,H,u,aH,ar,bf,bg⟩
 rintro _ dm ⟨af,ag,ah,ai,aj,ak,m,rfl,ck,bo,cl,cm⟩
 refine qs (sr (lv (r_0 u) (nq ?_)))
 obtain⟨bp,cn,cp⟩:=ob bH
 refine wc_cutg (fun E' w'=>∃I J O R S T aa,E'=[(2,pt k),(3,pt i)]∧SH w K [] w' aa [obj k [V3 none 0 0,V3 none 0 0] 46,obj i [V3 I J O,V3 R S T] 46,tail (V3 I J O) 77 3,tail (V3 R S T) 116 3]∧KLe m aa∧SliceAt tGDoc aa I J O bp.Docs∧SliceAt tGEntry aa R S T bp.Entries) ?_ ?_
 ·refine wc_block ?_
  obtain⟨dn,cq,cr⟩:=ob cn
  refine qw (fun (ao:Int×GSeg) E' w'=>∃y C D ab ac ad U,E'=[(1,pt l),(2,pt k),(3,pt i),(5,V6 ao.1)]∧SH w K [] w' U [obj l [V3 A a b,V3 B c d] 46,obj k [V3 none 0 0,V3 none 0 0] 46,obj i [V3 y C D,V3 ab ac ad] 46,tail (V3 y C D) 77 3,tail (V3 ab ac ad) 116 3]∧KLe m U∧rng64 ao.1∧SliceAt tGDoc U y C D ao.2.Docs∧SliceAt tGEntry U ab ac ad ao.2.Entries) cq ⟨af,ag,ah,ai,aj,ak,m,u,ck,kr,d_0,cl,cm⟩ ?_
  rintro ao _ dp dq ct cu ⟨y,C,D,ab,ac,ad,U,rfl,ap,az,dr,bq,br⟩
  refine wc_seq (sr (mv u (fl ff46_1 u tf44 m0 ap u (lv (rv_len underlying44 u (bd.mono (bo.trans az))) (lv (rv_lss u u) (nq (wcc ct u (fun cv aU=>?_) (fun cv aU=>?_))))))))
  ·refine wc_skip (qs (wc_block (sr (fl ff46_1 u tf44 m0 ap u (mv u ?_)))))
   obtain⟨f,cw,cx⟩:=ob aU
   refine li underlying44 tf116 (bd.mono (bo.trans az)) cw fun cy cz dt cA cB=>?_
   obtain⟨aV,aW,aX,rfl,cC,cD,cE⟩:=cA
   have cF:AtK _ cy cz [sv f.Field,sv f.Term,V3 aV aW aX]:=cB
   refine lv (rv_loadS tf116 u ap cF u) (al tf116 ap fun bs du cG=>?_)
   have cH:SH _ _ _ _ _ [obj bs [sv [],sv [],V3 none 0 0] 116,_,_,_,_,_]:=cG
   refine lw [sv f.Field,sv f.Term,V3 aV aW aX] tf116 cH fun dv cI=>(nq ?_)
   have aq:=cI.drew
   refine wh1 (fun w'=>Holds U w'∧HasObj bs [sv f.Field,sv f.Term,V3 aV aW aX] w') (fun w'=>HasObj i [V3 y C D,V3 ab ac ad] w') 13 [(1,11),(1,12),(1,13),(11,12),(11,13),(12,13)] mixed ⟨aq.hasK kr,aq.hasObj m0⟩ (fun _=>aq.hasObj (.tail _ (.tail _ (.tail _ (.head _))))) (gt (rv_fieldAddr ff46_1 u) (gf (fun _ h=>rh_loadm1 tf44 u u h) (gt (rv_fieldAddr ff116_0 u) (gh (fun _ h=>rh_loadm1 tf9 u u h.2) (gt (rv_fieldAddr ff116_1 u) (gh (fun _ h=>rh_loadm1 tf9 u u h.2) (gt (rv_fieldAddr ff116_2 u) (gh (fun _ h=>rh_loadm1 tf61 u u h.2) (gn ?_)))))))))
   obtain⟨cJ,cK,cL⟩:=ob cx
   refine lk co91 (ok_spec_l7CopyPosts F aq.enter0 cE cK) ?_
   rintro dw dx ⟨aA,aB,aC,dy,rfl,G,cM⟩
   have aD:=(aq.c0 G).t7
   refine wl_nil (qh ⟨aD.hasK G.le,aD.hasObj m1⟩ (fun _=>aD.hasObj (.tail _ (.tail _ (.tail _ (.tail _ (.head _)))))) (gt (rv_build (cs:=#[sv f.Field,sv f.Term,V3 aA aB aC]) sp116 tf116 u (by kernel_rfl)) (gn (lb tGEntry (.agg #[sv f.Field,sv f.Term,V3 aA aB aC]) [sv f.Field,sv f.Term,V3 aA aB aC] (GEntry.mk f.Field f.Term cJ) underlying44 tf116 ⟨aA,aB,aC,u,cC,cD,cM⟩ aD fun dz dA dB ae cN aE=>(wl_nil (qh ⟨aE.hasK (G.le.trans ae),aE.hasObj m2⟩ (fun _=>aE.hasObj (.tail _ (.tail _ (.tail _ (.tail _ (.tail _ (.head _))))))) (gn ?_)))))))
   obtain⟨dC,cO,cP⟩:=ob cL
   refine lp underlying44 tf116 (br.mono (G.le.trans ae)) cN cO aE.f7 fun aY aZ ba dD cQ aF cR aG=>(wl_nil (qh ⟨aG.hasK ((G.le.trans ae).trans aF),aG.hasObj m3⟩ (fun _=>aG.hasObj (.tail _ (.tail _ (.tail _ (.tail _ (.tail _ (.tail _ (.head _)))))))) (gt (rv_fieldAddr ff46_1 u) (gn (ls [V3 y C D,V3 aY aZ ba] (V3 aY aZ ba) tf44 aG.f6 fun dE bb=>(wl_nil (qh ⟨bb.hasK ((G.le.trans ae).trans aF),bb.hasObj m4⟩ (fun h=>nomatch h) (gd' (qe_block (qe_seq (wc_region ?_)))))))))))
   refine mv u (lv (rv_add u u) (av u (wl_nil ?_)))
   cases oi cP
   exact qd ⟨_,u,y,C,D,aY,aZ,ba,cQ,u,bb.f1.f7.f2.f7.f7.s,(((az.trans G.le).trans ae).trans aF),(w64_rng _),(bq.mono ((G.le.trans ae).trans aF)),cR⟩
  refine wc_exit (qe_then_exit (qe_then_exit ?_))
  cases oi aU
  cases cu _ u
  refine qe_block_eq ?_
  cases oi cr
  exact qd ⟨y,C,D,ab,ac,ad,U,u,ap.s,az,bq,br⟩
 rintro _ dF ⟨I,J,O,R,S,T,aa,rfl,bu,dG,cS,cT⟩
 refine qr (lv (rv_loadmS (ds:=[V3 I J O,V3 R S T]) tf46 u m1 bu u u) (lw [V3 I J O,V3 R S T] tf46 bu fun dH bv=>(nq (wc_ret ?_))))
 cases oi cp
 exact ez results174 tf46 bv m0 ⟨I,J,O,R,S,T,aa,u,bv.s,cS,cT⟩

theorem ok_spec_l18Copy {q0:GIndex}{r:GIndex}(hS:SH w K [] w K [])(bV:SliceAt tStr K A a b q0.Conf.Stops)(bW:SliceAt tGSyn K B c d q0.Conf.Syns)(bf:SliceAt tGLive K C f i q0.Segs)(hm:M.spec_l18Copy F q0=some r):
  Calls prog 110 #[.agg #[V3 A a b,V3 B c d,V3 C f i]] w fun e w'=>∃a_1 n_2 c_3 a_5 n_6 c_7 a_9 n_10 c_11 cs_12 K',e= .returned (.agg #[V3 a_1 n_2 c_3,V3 a_5 n_6 c_7,V3 a_9 n_10 c_11])∧SH w K [] w' K' [rowI (V3 a_9 n_10 c_11) cs_12 73 3]∧SliceAt tStr K' a_1 n_2 c_3 r.Conf.Stops∧SliceAt tGSyn K' a_5 n_6 c_7 r.Conf.Syns∧RowAt true tGLive K' cs_12 r.Segs∧n_10=r.Segs.length:=by
 rw [M.spec_l18Copy] at hm
 refine ci func110 u ntmps110 (sr (bx u hS fun Y dr bX=>?_))
 have bY:SH _ _ _ _ _ [obj Y [V3 A a b,V3 B c d,V3 C f i] 36]:=bX
 refine al tf36 bY fun S dt bZ=>?_
 have bg:SH _ _ _ _ _ [obj S [V3 none 0 0,V3 none 0 0,V3 none 0 0] 36,_]:=bZ
 refine nr (fa ff36_0 u (lv (rv_loadmS (ds:=[V3 A a b,V3 B c d]) tf33 u m1 bg u u) ?_))
 obtain⟨du,ca,cb⟩:=ob hm
 refine lk co173 (ok_spec_l18CopyConf F bg.enter0 bV bW ca) ?_
 rintro dv dw ⟨bh,bi,bj,bk,bl,bm,bn,rfl,aq,cc,cd⟩
 have ce:=(bg.c0 aq).t4
 refine lv (rv_build (cs:=#[V3 bh bi bj,V3 bk bl bm,V3 none 0 0]) sp36 tf36 u (by kernel_rfl)) (al tf36 ce fun O dx cf=>?_)
 have cg:SH _ _ _ _ _ [obj O [V3 none 0 0,V3 none 0 0,V3 none 0 0] 36,_,_,_,_]:=cf
 refine lw [V3 bh bi bj,V3 bk bl bm,V3 none 0 0] tf36 cg fun dy ch=>(nsr (lv (r_0 u) (nq ?_)))
 obtain⟨ar,cj,ck⟩:=ob cb
 refine wc_cutg (fun E' w'=>∃aa ab ac ad ae af ag T ah cs61 U,E'=[(2,pt S),(3,pt O)]∧SH w K [] w' U [obj S [V3 none 0 0,V3 none 0 0,V3 none 0 0] 36,obj O [V3 aa ab ac,V3 ad ae af,V3 ag T ah] 36,rowI (V3 ag T ah) cs61 73 3]∧KLe bn U∧SliceAt tStr U aa ab ac ar.Conf.Stops∧SliceAt tGSyn U ad ae af ar.Conf.Syns∧RowAt true tGLive U cs61 ar.Segs∧T=ar.Segs.length) ?_ ?_
 ·refine wc_block ?_
  obtain⟨dz,cl,cm⟩:=ob cj
  have cn:=SH.rowNil ch 73 3
  have cp:=cn.f1.f4.f5.sb (sk (sk (sk (sk (sd (sd sz))))))
  refine qw (fun (R:Int×GIndex) E' w'=>∃x y D G H I ak ai am cs84 J,E'=[(1,pt Y),(2,pt S),(3,pt O),(4,V6 R.1)]∧SH w K [] w' J [obj Y [V3 A a b,V3 B c d,V3 C f i] 36,obj S [V3 none 0 0,V3 none 0 0,V3 none 0 0] 36,obj O [V3 x y D,V3 G H I,V3 ak ai am] 36,rowI (V3 ak ai am) cs84 73 3]∧KLe bn J∧rng64 R.1∧SliceAt tStr J x y D R.2.Conf.Stops∧SliceAt tGSyn J G H I R.2.Conf.Syns∧RowAt true tGLive J cs84 R.2.Segs∧ai=R.2.Segs.length) cl ⟨bh,bi,bj,bk,bl,bm,none,0,0,[],bn,u,cp,kr,d_0,cc,cd,(RowAt.nil tGLive _),u⟩ ?_
  rintro R _ dA dB cq cr ⟨x,y,D,G,H,I,ak,ai,am,cs84,J,rfl,bo,an,dC,bp,bq,hrow85,hm86⟩
  refine wc_seq (sr (mv u (fl ff36_1 u tf34 m0 bo u (lv (rv_len underlying34 u (bf.mono (aq.le.trans an))) (lv (rv_lss u u) (nq (wcc cq u (fun ct br=>?_) (fun ct br=>?_))))))))
  ·refine wc_skip (qs (wc_block ?_))
   obtain⟨au,cu,cv⟩:=ob br
   refine wc_cutg (fun E' w'=>∃aw ax ay az aA aB aC ao aD cs115 V,E'=[(1,pt Y),(2,pt S),(3,pt O),(4,V6 R.1)]∧SH w K [] w' V [obj Y [V3 A a b,V3 B c d,V3 C f i] 36,obj S [V3 none 0 0,V3 none 0 0,V3 none 0 0] 36,obj O [V3 aw ax ay,V3 az aA aB,V3 aC ao aD] 36,rowI (V3 aC ao aD) cs115 73 3]∧KLe J V∧SliceAt tStr V aw ax ay au.Conf.Stops∧SliceAt tGSyn V az aA aB au.Conf.Syns∧RowAt true tGLive V cs115 au.Segs∧ao=au.Segs.length) ?_ ?_
   ·obtain⟨dD,cw,cx⟩:=ob cu
    obtain⟨dE,cy,cz⟩:=ob cx
    obtain⟨bE,bF,cA⟩:=ob cz
    obtain⟨bG,bH,cB⟩:=ob cA
    obtain⟨dF,bI,bJ⟩:=ob cB
    have aj:=bo.drew
    refine wj0 (fun w'=>Holds J w'∧HasObj Y [V3 A a b,V3 B c d,V3 C f i] w') (fun w'=>HasObj O [V3 x y D,V3 G H I,V3 ak ai am] w') 21 [(1,19),(1,20),(1,21),(19,20),(19,21),(20,21)] mixed ⟨aj.hasK kr,aj.hasObj m0⟩ (fun _=>aj.hasObj (.tail _ (.tail _ (.head _)))) (jv 0 u (rv_fieldAddr ff36_1 u) (jf 1 u (fun _ h=>rh_loadm1 tf34 u u h) (jv 2 u (rv_fieldAddr ff36_1 u) (jh 3 u (fun _ h=>rh_loadm1 tf34 u u h.2) (jv 4 u (rv_move u) (ji 5 u underlying34 tf73 (bf.mono (aq.le.trans an)) cw fun cC cD dG cE cF=>?_))))))
    obtain⟨bK,bL,bM,bN,bO,bP,cG,cH,cI,rfl,bQ,bR,dH⟩:=cE
    have cJ:AtK _ cC cD [V3 bK bL bM,V3 bN bO bP,V3 cG cH cI]:=cF
    refine jv 6 u (rv_fieldAddr ff73_0 u) (jh 7 u (fun _ h=>rh_loadS (cs:=[V3 bK bL bM,V3 bN bO bP]) tf46 u (AtK.part cJ 0 2) u h.1) (jv 10 u (rv_fieldAddr ff36_1 u) (jh 11 u (fun _ h=>rh_loadm1 tf34 u u h.2) (jv 12 u (rv_move u) (ji 13 u underlying34 tf73 (bf.mono (aq.le.trans an)) cy fun cK cL dI cM cN=>?_)))))
    obtain⟨cO,cP,cQ,cR,cS,cT,cU,cV,cW,rfl,dJ,dK,bS⟩:=cM
    have cX:AtK _ cK cL [V3 cO cP cQ,V3 cR cS cT,V3 cU cV cW]:=cN
    refine jv 14 u (rv_fieldAddr ff73_1 u) (jh 15 u (fun _ h=>rh_load1 tf71 u (cX 2 _ u) h.1) (j2 8 9 u u ?_ ?_))
    ·refine lk co174 (ok_spec_l18CopySeg F aj.enter0 bQ bR bF) ?_
     rintro dL dM ⟨aE,aF,aG,aH,aI,aJ,dN,rfl,l,cY,cZ⟩
     have aK:=(aj.c0 l).t6
     refine jn ⟨aK.hasK l.le,aK.hasObj m2⟩ (fun _=>aK.hasObj (.tail _ (.tail _ (.tail _ (.tail _ (.head _)))))) (j1 9 u (b0 tInt underlying71 tf3 aK fun dO dP dQ m da aL=>(jn ⟨aL.hasK (l.le.trans m),aL.hasObj m3⟩ (fun _=>aL.hasObj (.tail _ (.tail _ (.tail _ (.tail _ (.tail _ (.head _))))))) (j1 16 u (lp underlying71 tf3 da (bS.mono (l.le.trans m)) bH aL fun aM aN aO dR dS q db aP=>(jn ⟨aP.hasK ((l.le.trans m).trans q),aP.hasObj m3⟩ (fun _=>aP.hasObj (.tail _ (.tail _ (.tail _ (.tail _ (.tail _ (.head _))))))) (jv 17 u (rv_build (cs:=#[V3 aE aF aG,V3 aH aI aJ,V3 aM aN aO]) sp73 tf73 u (by kernel_rfl)) (j1 18 u (lb tGLive (.agg #[V3 aE aF aG,V3 aH aI aJ,V3 aM aN aO]) [V3 aE aF aG,V3 aH aI aJ,V3 aM aN aO] (GLive.mk bE bG) underlying34 tf73 ⟨aE,aF,aG,aH,aI,aJ,aM,aN,aO,u,(cY.mono (m.trans q)),(cZ.mono (m.trans q)),db⟩ aP fun dT dU dc W dd aQ=>?_)))))))))
     refine jn ⟨aQ.hasK (((l.le.trans m).trans q).trans W),aQ.hasObj m4⟩ (fun _=>aQ.hasObj (.tail _ (.tail _ (.tail _ (.tail _ (.tail _ (.tail _ (.head _)))))))) (j1 19 u (wl_appendR (t:=tGLive) wn u underlying34 tf73 u u u u (RowAt.mono (((l.le.trans m).trans q).trans W) hrow85) hm86 dd bI aQ.f7 fun bs bu bv cs289 dV hrow291 hm292 aR=>(jn ⟨aR.hasK (((l.le.trans m).trans q).trans W),aR.hasObj m5⟩ (fun _=>aR.hasObj (.tail _ (.tail _ (.tail _ (.tail _ (.tail _ (.tail _ (.tail _ (.head _))))))))) (jv 20 u (rv_fieldAddr ff36_1 u) (j1 21 u (ls [V3 x y D,V3 G H I,V3 bs bu bv] (V3 bs bu bv) tf34 aR.f7 fun dW bz=>(jn ⟨bz.hasK (((l.le.trans m).trans q).trans W),bz.hasObj m6⟩ (fun h=>nomatch h) (jd ?_))))))))
     cases oi bJ
     exact qd ⟨x,y,D,G,H,I,bs,bu,bv,cs289,dc,u,bz.f1.f1.f7.f7.s,(((l.le.trans m).trans q).trans W),(SliceAt.mono (((l.le.trans m).trans q).trans W) bp),(SliceAt.mono (((l.le.trans m).trans q).trans W) bq),hrow291,hm292⟩
    refine b0 tInt underlying71 tf3 aj fun dX dY dZ k de ap=>(jn ⟨ap.hasK k,ap.hasObj m1⟩ (fun _=>ap.hasObj (.tail _ (.tail _ (.tail _ (.head _))))) (j1 8 u (lk co174 (ok_spec_l18CopySeg F ap.enter0 (bQ.mono k) (bR.mono k) bF) ?_)))
    rintro ea eb ⟨aS,aT,aU,aV,aW,aX,ec,rfl,o,df,dg⟩
    have aY:=(ap.c0 o).t7
    refine jn ⟨aY.hasK (k.trans o.le),aY.hasObj m3⟩ (fun _=>aY.hasObj (.tail _ (.tail _ (.tail _ (.tail _ (.tail _ (.head _))))))) (j1 16 u (lp underlying71 tf3 (de.mono o.le) (bS.mono (k.trans o.le)) bH aY.f2 fun aZ ba bb ed ee s dh bc=>(jn ⟨bc.hasK ((k.trans o.le).trans s),bc.hasObj m3⟩ (fun _=>bc.hasObj (.tail _ (.tail _ (.tail _ (.tail _ (.tail _ (.head _))))))) (jv 17 u (rv_build (cs:=#[V3 aS aT aU,V3 aV aW aX,V3 aZ ba bb]) sp73 tf73 u (by kernel_rfl)) (j1 18 u (lb tGLive (.agg #[V3 aS aT aU,V3 aV aW aX,V3 aZ ba bb]) [V3 aS aT aU,V3 aV aW aX,V3 aZ ba bb] (GLive.mk bE bG) underlying34 tf73 ⟨aS,aT,aU,aV,aW,aX,aZ,ba,bb,u,(df.mono s),(dg.mono s),dh⟩ bc fun ef eg di X dj bd=>(jn ⟨bd.hasK (((k.trans o.le).trans s).trans X),bd.hasObj m4⟩ (fun _=>bd.hasObj (.tail _ (.tail _ (.tail _ (.tail _ (.tail _ (.tail _ (.head _)))))))) (j1 19 u (wl_appendR (t:=tGLive) wn u underlying34 tf73 u u u u (RowAt.mono (((k.trans o.le).trans s).trans X) hrow85) hm86 dj bI bd.f7 fun bA bB bC cs340 eh hrow342 hm343 be=>?_)))))))))
    refine jn ⟨be.hasK (((k.trans o.le).trans s).trans X),be.hasObj m5⟩ (fun _=>be.hasObj (.tail _ (.tail _ (.tail _ (.tail _ (.tail _ (.tail _ (.tail _ (.head _))))))))) (jv 20 u (rv_fieldAddr ff36_1 u) (j1 21 u (ls [V3 x y D,V3 G H I,V3 bA bB bC] (V3 bA bB bC) tf34 be.f7 fun ei bD=>(jn ⟨bD.hasK (((k.trans o.le).trans s).trans X),bD.hasObj m6⟩ (fun h=>nomatch h) (jd ?_)))))
    cases oi bJ
    exact qd ⟨x,y,D,G,H,I,bA,bB,bC,cs340,di,u,bD.f1.f1.f7.f7.s,(((k.trans o.le).trans s).trans X),(SliceAt.mono (((k.trans o.le).trans s).trans X) bp),(SliceAt.mono (((k.trans o.le).trans s).trans X) bq),hrow342,hm343⟩
   rintro _ ej ⟨aw,ax,ay,az,aA,aB,aC,ao,aD,cs115,V,rfl,dk,dl,dm,dn,hrow116,hm117⟩
   refine qe_block (qe_seq (wc_region (mv u (lv (rv_add u u) (av u (wl_nil ?_))))))
   cases oi cv
   exact qd ⟨_,u,aw,ax,ay,az,aA,aB,aC,ao,aD,cs115,V,u,dk,(an.trans dl),(w64_rng _),dm,dn,hrow116,hm117⟩
  refine wc_exit (qe_then_exit (qe_then_exit ?_))
  cases oi br
  cases cr _ u
  refine qe_block_eq ?_
  cases oi cm
  exact qd ⟨x,y,D,G,H,I,ak,ai,am,cs84,J,u,bo.s,an,bp,bq,hrow85,hm86⟩
 rintro _ ek ⟨aa,ab,ac,ad,ae,af,ag,T,ah,cs61,U,rfl,bT,el,dp,dq,hrow62,hm63⟩
 refine qr (lv (rv_loadmS (ds:=[V3 aa ab ac,V3 ad ae af,V3 ag T ah]) tf36 u m1 bT u u) (lw [V3 aa ab ac,V3 ad ae af,V3 ag T ah] tf36 bT fun em bU=>(nq (wc_ret ?_))))
 cases oi ck
 exact ez results110 tf36 bU m0 ⟨aa,ab,ac,ad,ae,af,ag,T,ah,cs61,U,u,bU.s,dp,dq,hrow62,hm63⟩

set_option maxHeartbeats 2000000 in
theorem own_spec_l18Copy (F:Nat){w:World}{K:KMap}{a1:Option Addr}{n2 c3:Nat}{a5:Option Addr}{n6 c7:Nat}{a9:Option Addr}{n10 c11:Nat}{p0_x:GIndex}{r:GIndex}(hS:SH w K [] w K [])(hs4:SliceAt tStr K a1 n2 c3 p0_x.Conf.Stops)(hs8:SliceAt tGSyn K a5 n6 c7 p0_x.Conf.Syns)(hs12:SliceAt tGLive K a9 n10 c11 p0_x.Segs)(hm:M.spec_l18Copy F p0_x=some r):
  Calls Tryz.prog 110 #[.agg #[.slice a1 n2 c3,.slice a5 n6 c7,.slice a9 n10 c11]] w fun e w'=>∃(a_1:Option Addr) (n_2 c_3:Nat) (a_5:Option Addr) (n_6 c_7:Nat) (a_9:Option Addr) (n_10 c_11:Nat) (cs_12:List Value) (K':KMap),e= .returned (.agg #[.slice a_1 n_2 c_3,.slice a_5 n_6 c_7,.slice a_9 n_10 c_11])∧SH w K [] w' K' [rowI (.slice a_9 n_10 c_11) cs_12 73 3,pack (tailsOf 116 3 cs_12)]∧SliceAt tStr K' a_1 n_2 c_3 r.Conf.Stops∧SliceAt tGSyn K' a_5 n_6 c_7 r.Conf.Syns∧RowAt true tGLive K' cs_12 r.Segs∧n_10=r.Segs.length:=by
 rw [M.spec_l18Copy] at hm
 refine calls_in Tryz.func110 rfl Tryz.ntmps110 rfl ?_
 refine sr ?_
 refine wl_box wn rfl rfl hS ?_
 intro g13 w14 hS15
 have hS16:SH _ _ _ _ _ [obj g13 [.slice a1 n2 c3,.slice a5 n6 c7,.slice a9 n10 c11] 36]:=hS15
 refine wl_alloc wn rfl tf36 hS16 ?_
 intro g17 w18 hS19
 have hS20:SH _ _ _ _ _ [obj g17 [.slice none 0 0,.slice none 0 0,.slice none 0 0] 36,_]:=hS19
 refine nr ?_
 refine wl_val wn rfl (rv_fieldAddr ff36_0 rfl) ?_
 refine wl_val wn rfl (rv_loadmS (ds:=[.slice a1 n2 c3,.slice a5 n6 c7]) tf33 rfl (.tail _ (.head _)) hS20 rfl rfl) ?_
 obtain⟨r21,hx22,h23⟩:=ob hm
 refine wl_call wn rfl (rt_call (vs:=[.agg #[.slice a1 n2 c3,.slice a5 n6 c7]]) co173 rfl) ((ok_spec_l18CopyConf F) hS20.enter0 hs4 hs8 hx22) ?_
 rintro e35 w25 ⟨a27,n28,c29,a31,n32,c33,K24,rfl,hS26,hs30,hs34⟩
 refine⟨_,rfl,?_⟩
 have hS36:SH _ _ _ _ _ [_,_,_,_]:=SH.call0 hS20 hS26
 refine wl_val wn rfl (rv_build (cs:=#[.slice a27 n28 c29,.slice a31 n32 c33,.slice none 0 0]) sp36 tf36 rfl (by kernel_rfl)) ?_
 refine wl_alloc wn rfl tf36 hS36 ?_
 intro g37 w38 hS39
 have hS40:SH _ _ _ _ _ [obj g37 [.slice none 0 0,.slice none 0 0,.slice none 0 0] 36,_,_,_,_]:=hS39
 refine wl_store (cs':=[.slice a27 n28 c29,.slice a31 n32 c33,.slice none 0 0]) (v:=.agg #[.slice a27 n28 c29,.slice a31 n32 c33,.slice none 0 0]) wn tf36 rfl rfl rfl (by simp [Value.cells,Value.oneCell']) hS40 rfl rfl ?_
 intro w41 hS42
 refine nsr ?_
 refine wl_val wn rfl (rv_assign (v:=.int .i64 0) rfl) ?_
 refine nq ?_
 obtain⟨o43,h44,h45⟩:=ob h23
 refine wc_cutg (fun E' w'=>∃(a50:Option Addr) (n51 c52:Nat) (a54:Option Addr) (n55 c56:Nat) (a58:Option Addr) (n59 c60:Nat) (cs61:List Value) (K46:KMap),E'=[(2,.pointer (some ⟨g17,0,none⟩)),(3,.pointer (some ⟨g37,0,none⟩))]∧SH w K [] w' K46 [obj g17 [.slice none 0 0,.slice none 0 0,.slice none 0 0] 36,obj g37 [.slice a50 n51 c52,.slice a54 n55 c56,.slice a58 n59 c60] 36,rowI (.slice a58 n59 c60) cs61 73 3,pack (tailsOf 116 3 cs61)]∧KLe K24 K46∧SliceAt tStr K46 a50 n51 c52 o43.Conf.Stops∧SliceAt tGSyn K46 a54 n55 c56 o43.Conf.Syns∧RowAt true tGLive K46 cs61 o43.Segs∧n59=o43.Segs.length) ?_ ?_
 ·refine wc_block ?_
  obtain⟨r65,h66,h67⟩:=ob h44
  have hS87:=SH.rowNil hS42 73 3
  have hS88:SH _ _ _ _ _ [_,_,_,_,_,_]:=SH.front (p:=[_]) hS87
  have hS89:SH _ _ _ _ _ [_,_,_,_,_,_]:=SH.front (p:=[_,_,_,_]) hS88
  have hS90:SH _ _ _ _ _ [_,_,_,_,_,_]:=SH.front (p:=[_,_,_,_,_]) hS89
  have hS91q:SH _ _ _ _ _ [_,_,_,_]:=SH.sublist hS90 (.cons_cons _ (.cons_cons _ (.cons_cons _ (.cons_cons _ (.cons _ (.cons _ .slnil))))))
  have hS91:SH _ _ _ _ _ [_,_,_,_,_]:=SH.toBack (p:=[_,_,_,_]) (SH.packNil hS91q 116 3)
  refine wc_while' (fun (s64:Int×GIndex) E' w'=>∃(a73:Option Addr) (n74 c75:Nat) (a77:Option Addr) (n78 c79:Nat) (a81:Option Addr) (n82 c83:Nat) (cs84:List Value) (K68:KMap),E'=[(1,.pointer (some ⟨g13,0,none⟩)),(2,.pointer (some ⟨g17,0,none⟩)),(3,.pointer (some ⟨g37,0,none⟩)),(4,.int .i64 s64.1)]∧SH w K [] w' K68 [obj g13 [.slice a1 n2 c3,.slice a5 n6 c7,.slice a9 n10 c11] 36,obj g17 [.slice none 0 0,.slice none 0 0,.slice none 0 0] 36,obj g37 [.slice a73 n74 c75,.slice a77 n78 c79,.slice a81 n82 c83] 36,rowI (.slice a81 n82 c83) cs84 73 3,pack (tailsOf 116 3 cs84)]∧KLe K24 K68∧rng64 s64.1∧SliceAt tStr K68 a73 n74 c75 s64.2.Conf.Stops∧SliceAt tGSyn K68 a77 n78 c79 s64.2.Conf.Syns∧RowAt true tGLive K68 cs84 s64.2.Segs∧n82=s64.2.Segs.length) h66 ⟨a27,n28,c29,a31,n32,c33,none,0,0,[],K24,rfl,hS91,(KLe.refl _),d_0,hs30,hs34,(RowAt.nil tGLive _),rfl⟩ ⟨rfl,rfl,rfl,rfl,trivial⟩ ?_
  rintro s64 _ w70 r92 h93 hx94 ⟨a73,n74,c75,a77,n78,c79,a81,n82,c83,cs84,K68,rfl,hS71,hl69,hr72,hs76,hs80,hrow85,hm86⟩
  refine wc_seq ?_
  refine sr ?_
  refine vm rfl rfl ?_
  refine wl_val wn rfl (rv_fieldAddr ff36_1 rfl) ?_
  refine wl_val wn rfl (rv_loadm1 tf34 rfl (.head _) hS71 rfl) ?_
  refine wl_val wn rfl (rv_len (t:=tGLive) Tryz.underlying34 rfl (SliceAt.mono (hS26.le.trans hl69) hs12)) ?_
  refine wl_val wn rfl (rv_lss rfl rfl) ?_
  refine nq ?_
  refine wc_cond rfl (fun hb95=>?_) (fun hb95=>?_)
  ·have h96:=cond_t hb95 h93
   refine wc_skip ?_
   refine qs ?_
   refine wc_block ?_
   obtain⟨o97,h98,h99⟩:=ob h96
   refine wc_cutg (fun E' w'=>∃(a104:Option Addr) (n105 c106:Nat) (a108:Option Addr) (n109 c110:Nat) (a112:Option Addr) (n113 c114:Nat) (cs115:List Value) (K100:KMap),E'=[(1,.pointer (some ⟨g13,0,none⟩)),(2,.pointer (some ⟨g17,0,none⟩)),(3,.pointer (some ⟨g37,0,none⟩)),(4,.int .i64 s64.1)]∧SH w K [] w' K100 [obj g13 [.slice a1 n2 c3,.slice a5 n6 c7,.slice a9 n10 c11] 36,obj g17 [.slice none 0 0,.slice none 0 0,.slice none 0 0] 36,obj g37 [.slice a104 n105 c106,.slice a108 n109 c110,.slice a112 n113 c114] 36,rowI (.slice a112 n113 c114) cs115 73 3,pack (tailsOf 116 3 cs115)]∧KLe K68 K100∧SliceAt tStr K100 a104 n105 c106 o97.Conf.Stops∧SliceAt tGSyn K100 a108 n109 c110 o97.Conf.Syns∧RowAt true tGLive K100 cs115 o97.Segs∧n113=o97.Segs.length) ?_ ?_
   ·obtain⟨x120,hx121,h122⟩:=ob h98
    obtain⟨x141,hx142,h143⟩:=ob h122
    obtain⟨r162,hx163,h164⟩:=ob h143
    obtain⟨x184,hx185,h186⟩:=ob h164
    obtain⟨x202,hx203,h204⟩:=ob h186
    refine wc_held (fun w'=>Holds K68 w'∧HasObj g13 [.slice a1 n2 c3,.slice a5 n6 c7,.slice a9 n10 c11] w') (fun w'=>HasObj g37 [.slice a73 n74 c75,.slice a77 n78 c79,.slice a81 n82 c83] w') 21 [(1,19),(1,20),(1,21),(19,20),(19,21),(20,21)] mixed ?_
    have hS119:=SH.drew hS71
    refine wg_val (i:=0) (listed':=L_ 22 0) (fun _=>True) rfl (by kernel_rfl) (pk_then (pk_block (pk_then (pk_then (pk_block (pk_then (pk_then pk_body))))))) (by kernel_rfl) rfl (by kernel_rfl) (by kernel_rfl) rfl (.inl fun _ _=>trivial) ⟨⟨hS119.hasK (KLe.refl _),hS119.hasObj (.head _)⟩,(fun _=>hS119.hasObj (.tail _ (.tail _ (.head _)))),by decide⟩ wn rfl (fun _ _=>(rv_fieldAddr ff36_1 rfl)) ?_
    refine wg_val (i:=1) (listed':=L_ 22 1) (HasObj g37 [.slice a73 n74 c75,.slice a77 n78 c79,.slice a81 n82 c83]) rfl (by kernel_rfl) (pk_then (pk_block (pk_then (pk_then (pk_block (pk_then (pk_then pk_body))))))) (by kernel_rfl) rfl (by kernel_rfl) (by kernel_rfl) rfl (.inr ⟨rfl,fun _ _ h=>h⟩) ⟨⟨hS119.hasK (KLe.refl _),hS119.hasObj (.head _)⟩,(fun _=>hS119.hasObj (.tail _ (.tail _ (.head _)))),by decide⟩ wn rfl (fun _ h=>rh_loadm1 tf34 rfl rfl h) ?_
    refine wg_val (i:=2) (listed':=L_ 22 2) (fun _=>True) rfl (by kernel_rfl) (pk_then (pk_block (pk_then (pk_then (pk_block (pk_then (pk_then pk_body))))))) (by kernel_rfl) rfl (by kernel_rfl) (by kernel_rfl) rfl (.inl fun _ _=>trivial) ⟨⟨hS119.hasK (KLe.refl _),hS119.hasObj (.head _)⟩,(fun _=>hS119.hasObj (.tail _ (.tail _ (.head _)))),by decide⟩ wn rfl (fun _ _=>(rv_fieldAddr ff36_1 rfl)) ?_
    refine wg_val (i:=3) (listed':=L_ 22 3) (HasObj g13 [.slice a1 n2 c3,.slice a5 n6 c7,.slice a9 n10 c11]) rfl (by kernel_rfl) (pk_then (pk_block (pk_then (pk_then (pk_block (pk_then (pk_then pk_body))))))) (by kernel_rfl) rfl (by kernel_rfl) (by kernel_rfl) rfl (.inl fun _ h=>h.2) ⟨⟨hS119.hasK (KLe.refl _),hS119.hasObj (.head _)⟩,(fun _=>hS119.hasObj (.tail _ (.tail _ (.head _)))),by decide⟩ wn rfl (fun _ h=>rh_loadm1 tf34 rfl rfl h) ?_
    refine wg_val (i:=4) (listed':=L_ 22 4) (fun _=>True) rfl (by kernel_rfl) (pk_then (pk_block (pk_then (pk_then (pk_block (pk_then (pk_then pk_body))))))) (by kernel_rfl) rfl (by kernel_rfl) (by kernel_rfl) rfl (.inl fun _ _=>trivial) ⟨⟨hS119.hasK (KLe.refl _),hS119.hasObj (.head _)⟩,(fun _=>hS119.hasObj (.tail _ (.tail _ (.head _)))),by decide⟩ wn rfl (fun _ _=>(rv_move rfl)) ?_
    refine wg_indexAddr (t:=tGLive) (j:=5) (listed':=L_ 22 5) rfl (by kernel_rfl) (pk_then (pk_block (pk_then (pk_then (pk_block (pk_then (pk_then pk_body))))))) (by kernel_rfl) rfl (by kernel_rfl) (by kernel_rfl) rfl ⟨⟨hS119.hasK (KLe.refl _),hS119.hasObj (.head _)⟩,(fun _=>hS119.hasObj (.tail _ (.tail _ (.head _)))),by decide⟩ wn rfl Tryz.underlying34 tf73 rfl rfl (SliceAt.mono (hS26.le.trans hl69) hs12) hx121 ?_
    intro b216 o217 u218 hu219 ha220
    obtain⟨a221,n222,c223,a225,n226,c227,a229,n230,c231,rfl,hs224,hs228,hs232⟩:=hu219
    have ha233:AtK _ b216 o217 [.slice a221 n222 c223,.slice a225 n226 c227,.slice a229 n230 c231]:=ha220
    refine wg_val (i:=6) (listed':=L_ 22 6) (fun _=>True) rfl (by kernel_rfl) (pk_then (pk_block (pk_then (pk_then (pk_block (pk_then (pk_then pk_body))))))) (by kernel_rfl) rfl (by kernel_rfl) (by kernel_rfl) rfl (.inl fun _ _=>trivial) ⟨⟨hS119.hasK (KLe.refl _),hS119.hasObj (.head _)⟩,(fun _=>hS119.hasObj (.tail _ (.tail _ (.head _)))),by decide⟩ wn rfl (fun _ _=>(rv_fieldAddr ff73_0 rfl)) ?_
    refine wg_val (i:=7) (listed':=L_ 22 7) (Holds K68) rfl (by kernel_rfl) (pk_then (pk_block (pk_then (pk_then (pk_block (pk_then (pk_then pk_body))))))) (by kernel_rfl) rfl (by kernel_rfl) (by kernel_rfl) rfl (.inl fun _ h=>h.1) ⟨⟨hS119.hasK (KLe.refl _),hS119.hasObj (.head _)⟩,(fun _=>hS119.hasObj (.tail _ (.tail _ (.head _)))),by decide⟩ wn rfl (fun _ h=>rh_loadS (cs:=[.slice a221 n222 c223,.slice a225 n226 c227]) tf46 rfl (AtK.part ha233 0 2) rfl h) ?_
    refine wg_val (i:=10) (listed':=#[true,true,true,true,true,true,true,true,false,false,true,false,false,false,false,false,false,false,false,false,false,false]) (fun _=>True) rfl (by kernel_rfl) (pk_then (pk_block (pk_then (pk_then (pk_block (pk_then (pk_then pk_body))))))) (by kernel_rfl) rfl (by kernel_rfl) (by kernel_rfl) rfl (.inl fun _ _=>trivial) ⟨⟨hS119.hasK (KLe.refl _),hS119.hasObj (.head _)⟩,(fun _=>hS119.hasObj (.tail _ (.tail _ (.head _)))),by decide⟩ wn rfl (fun _ _=>(rv_fieldAddr ff36_1 rfl)) ?_
    refine wg_val (i:=11) (listed':=#[true,true,true,true,true,true,true,true,false,false,true,true,false,false,false,false,false,false,false,false,false,false]) (HasObj g13 [.slice a1 n2 c3,.slice a5 n6 c7,.slice a9 n10 c11]) rfl (by kernel_rfl) (pk_then (pk_block (pk_then (pk_then (pk_block (pk_then (pk_then pk_body))))))) (by kernel_rfl) rfl (by kernel_rfl) (by kernel_rfl) rfl (.inl fun _ h=>h.2) ⟨⟨hS119.hasK (KLe.refl _),hS119.hasObj (.head _)⟩,(fun _=>hS119.hasObj (.tail _ (.tail _ (.head _)))),by decide⟩ wn rfl (fun _ h=>rh_loadm1 tf34 rfl rfl h) ?_
    refine wg_val (i:=12) (listed':=#[true,true,true,true,true,true,true,true,false,false,true,true,true,false,false,false,false,false,false,false,false,false]) (fun _=>True) rfl (by kernel_rfl) (pk_then (pk_block (pk_then (pk_then (pk_block (pk_then (pk_then pk_body))))))) (by kernel_rfl) rfl (by kernel_rfl) (by kernel_rfl) rfl (.inl fun _ _=>trivial) ⟨⟨hS119.hasK (KLe.refl _),hS119.hasObj (.head _)⟩,(fun _=>hS119.hasObj (.tail _ (.tail _ (.head _)))),by decide⟩ wn rfl (fun _ _=>(rv_move rfl)) ?_
    refine wg_indexAddr (t:=tGLive) (j:=13) (listed':=#[true,true,true,true,true,true,true,true,false,false,true,true,true,true,false,false,false,false,false,false,false,false]) rfl (by kernel_rfl) (pk_then (pk_block (pk_then (pk_then (pk_block (pk_then (pk_then pk_body))))))) (by kernel_rfl) rfl (by kernel_rfl) (by kernel_rfl) rfl ⟨⟨hS119.hasK (KLe.refl _),hS119.hasObj (.head _)⟩,(fun _=>hS119.hasObj (.tail _ (.tail _ (.head _)))),by decide⟩ wn rfl Tryz.underlying34 tf73 rfl rfl (SliceAt.mono (hS26.le.trans hl69) hs12) hx142 ?_
    intro b234 o235 u236 hu237 ha238
    obtain⟨a239,n240,c241,a243,n244,c245,a247,n248,c249,rfl,hs242,hs246,hs250⟩:=hu237
    have ha251:AtK _ b234 o235 [.slice a239 n240 c241,.slice a243 n244 c245,.slice a247 n248 c249]:=ha238
    refine wg_val (i:=14) (listed':=#[true,true,true,true,true,true,true,true,false,false,true,true,true,true,true,false,false,false,false,false,false,false]) (fun _=>True) rfl (by kernel_rfl) (pk_then (pk_block (pk_then (pk_then (pk_block (pk_then (pk_then pk_body))))))) (by kernel_rfl) rfl (by kernel_rfl) (by kernel_rfl) rfl (.inl fun _ _=>trivial) ⟨⟨hS119.hasK (KLe.refl _),hS119.hasObj (.head _)⟩,(fun _=>hS119.hasObj (.tail _ (.tail _ (.head _)))),by decide⟩ wn rfl (fun _ _=>(rv_fieldAddr ff73_1 rfl)) ?_
    refine wg_val (i:=15) (listed':=#[true,true,true,true,true,true,true,true,false,false,true,true,true,true,true,true,false,false,false,false,false,false]) (Holds K68) rfl (by kernel_rfl) (pk_then (pk_block (pk_then (pk_then (pk_block (pk_then (pk_then pk_body))))))) (by kernel_rfl) rfl (by kernel_rfl) (by kernel_rfl) rfl (.inl fun _ h=>h.1) ⟨⟨hS119.hasK (KLe.refl _),hS119.hasObj (.head _)⟩,(fun _=>hS119.hasObj (.tail _ (.tail _ (.head _)))),by decide⟩ wn rfl (fun _ h=>rh_load1 tf71 rfl (ha251 2 _ rfl) h) ?_
    refine wg_many (l:=[8,9]) (by kernel_rfl) rfl ⟨⟨_,rfl,?_⟩,⟨_,rfl,?_⟩,trivial⟩
    ·refine wl_call wn rfl (rt_call (vs:=[.agg #[.slice a221 n222 c223,.slice a225 n226 c227]]) co174 rfl) ((ok_spec_l18CopySeg F) hS119.enter0 hs224 hs228 hx163) ?_
     rintro e263 w253 ⟨a255,n256,c257,a259,n260,c261,K252,rfl,hS254,hs258,hs262⟩
     refine⟨_,rfl,?_⟩
     have hS264:SH _ _ _ _ _ [_,_,_,_,_,_,_]:=SH.call0 hS119 hS254
     refine wl_nil (qe_held (listed':=#[true,true,true,true,true,true,true,true,true,false,true,true,true,true,true,true,false,false,false,false,false,false]) rfl ⟨⟨hS264.hasK hS254.le,hS264.hasObj (.tail _ (.tail _ (.head _)))⟩,(fun _=>hS264.hasObj (.tail _ (.tail _ (.tail _ (.tail _ (.head _)))))),by decide⟩ ?_)
     refine wg_one (i:=9) (by kernel_rfl) rfl ?_
     refine wl_buildSlice0 tInt wn rfl Tryz.underlying71 tf3 hS264 ?_
     intro a265 w266 K267 hl268 hs269 hS270
     refine wl_nil (qe_held (listed':=L_ 22 15) rfl ⟨⟨hS270.hasK (hS254.le.trans hl268),hS270.hasObj (.tail _ (.tail _ (.tail _ (.head _))))⟩,(fun _=>hS270.hasObj (.tail _ (.tail _ (.tail _ (.tail _ (.tail _ (.head _))))))),by decide⟩ ?_)
     refine wg_one (i:=16) (by kernel_rfl) rfl ?_
     refine wl_append (t:=tInt) wn rfl Tryz.underlying71 tf3 rfl rfl rfl rfl rfl hs269 (SliceAt.mono (hS254.le.trans hl268) hs250) hx185 hS270 ?_
     intro a271 n272 c273 w274 K275 hl276 hs277 hS278
     refine wl_nil (qe_held (listed':=L_ 22 16) rfl ⟨⟨hS278.hasK ((hS254.le.trans hl268).trans hl276),hS278.hasObj (.tail _ (.tail _ (.tail _ (.head _))))⟩,(fun _=>hS278.hasObj (.tail _ (.tail _ (.tail _ (.tail _ (.tail _ (.head _))))))),by decide⟩ ?_)
     refine wg_val (i:=17) (listed':=L_ 22 17) (fun _=>True) rfl (by kernel_rfl) (pk_then (pk_block (pk_then (pk_then (pk_block (pk_then (pk_then pk_body))))))) (by kernel_rfl) rfl (by kernel_rfl) (by kernel_rfl) rfl (.inl fun _ _=>trivial) ⟨⟨hS278.hasK ((hS254.le.trans hl268).trans hl276),hS278.hasObj (.tail _ (.tail _ (.tail _ (.head _))))⟩,(fun _=>hS278.hasObj (.tail _ (.tail _ (.tail _ (.tail _ (.tail _ (.head _))))))),by decide⟩ wn rfl (fun _ _=>(rv_build (cs:=#[.slice a255 n256 c257,.slice a259 n260 c261,.slice a271 n272 c273]) sp73 tf73 rfl (by kernel_rfl))) ?_
     refine wg_one (i:=18) (by kernel_rfl) rfl ?_
     refine wl_buildSlice (t:=tGLive.wc) (n:=1) (pv:=[(0,.agg #[.slice a255 n256 c257,.slice a259 n260 c261,.slice a271 n272 c273])]) (cs:=[.slice a255 n256 c257,.slice a259 n260 c261,.slice a271 n272 c273]) (xs:=[((GLive.mk r162 x184),[.slice a255 n256 c257,.slice a259 n260 c261,.slice a271 n272 c273])]) wn rfl Tryz.underlying34 tf73 rfl rfl rfl (by kernel_rfl) rfl rfl (lit_cons (t:=tGLive.wc) (u:=.agg #[.slice a255 n256 c257,.slice a259 n260 c261,.slice a271 n272 c273]) (z:=((GLive.mk r162 x184),[.slice a255 n256 c257,.slice a259 n260 c261,.slice a271 n272 c273])) ⟨⟨a255,n256,c257,a259,n260,c261,a271,n272,c273,rfl,(SliceAt.mono (hl268.trans hl276) hs258),(SliceAt.mono (hl268.trans hl276) hs262),hs277⟩,rfl⟩ lit_nil) hS278 ?_
     intro a279 w280 K281 hl282 hs283 hS284
     refine wl_nil (qe_held (listed':=L_ 22 18) rfl ⟨⟨hS284.hasK (((hS254.le.trans hl268).trans hl276).trans hl282),hS284.hasObj (.tail _ (.tail _ (.tail _ (.tail _ (.head _)))))⟩,(fun _=>hS284.hasObj (.tail _ (.tail _ (.tail _ (.tail _ (.tail _ (.tail _ (.head _)))))))),by decide⟩ ?_)
     refine wg_one (i:=19) (by kernel_rfl) rfl ?_
     have hS285:SH _ _ _ _ _ [_,_,_,_,_,_,_,_,_]:=SH.front (p:=[_,_,_,_,_,_,_]) hS284
     refine wl_appendT (t:=tGLive) wn rfl Tryz.underlying34 tf73 rfl rfl rfl rfl (RowAt.mono (((hS254.le.trans hl268).trans hl276).trans hl282) hrow85) hm86 hs283 hx203 hS285 ?_
     intro a286 n287 c288 w290 hrow291 hm292 hS293
     refine wl_nil (qe_held (listed':=L_ 22 19) rfl ⟨⟨hS293.hasK (((hS254.le.trans hl268).trans hl276).trans hl282),hS293.hasObj (.tail _ (.tail _ (.tail _ (.tail _ (.tail _ (.head _))))))⟩,(fun _=>hS293.hasObj (.tail _ (.tail _ (.tail _ (.tail _ (.tail _ (.tail _ (.tail _ (.head _))))))))),by decide⟩ ?_)
     refine wg_val (i:=20) (listed':=L_ 22 20) (fun _=>True) rfl (by kernel_rfl) (pk_then (pk_block (pk_then (pk_then (pk_block (pk_then (pk_then pk_body))))))) (by kernel_rfl) rfl (by kernel_rfl) (by kernel_rfl) rfl (.inl fun _ _=>trivial) ⟨⟨hS293.hasK (((hS254.le.trans hl268).trans hl276).trans hl282),hS293.hasObj (.tail _ (.tail _ (.tail _ (.tail _ (.tail _ (.head _))))))⟩,(fun _=>hS293.hasObj (.tail _ (.tail _ (.tail _ (.tail _ (.tail _ (.tail _ (.tail _ (.head _))))))))),by decide⟩ wn rfl (fun _ _=>(rv_fieldAddr ff36_1 rfl)) ?_
     refine wg_one (i:=21) (by kernel_rfl) rfl ?_
     have hS294:SH _ _ _ _ _ [_,_,_,_,_,_,_,_,_]:=SH.front (p:=[_,_,_,_,_,_,_]) hS293
     refine wl_store (cs':=[.slice a73 n74 c75,.slice a77 n78 c79,.slice a286 n287 c288]) (v:=.slice a286 n287 c288) wn tf34 rfl rfl rfl (by simp [Value.cells,Value.oneCell']) hS294 rfl rfl ?_
     intro w295 hS296
     refine wl_nil (qe_held (listed':=L_ 22 21) rfl ⟨⟨hS296.hasK (((hS254.le.trans hl268).trans hl276).trans hl282),hS296.hasObj (.tail _ (.tail _ (.tail _ (.tail _ (.tail _ (.tail _ (.head _)))))))⟩,(fun h=>nomatch h),by decide⟩ ?_)
     refine wg_done (by kernel_rfl) ?_
     obtain rfl:=oi h204
     have hS297:SH _ _ _ _ _ [_,_,_,_,_,_,_,_,_]:=SH.front (p:=[_]) hS296
     have hS298:SH _ _ _ _ _ [_,_,_,_,_,_,_,_,_]:=SH.front (p:=[_]) hS297
     have hS299:SH _ _ _ _ _ [_,_,_,_,_,_,_,_,_]:=SH.front (p:=[_,_,_,_,_,_,_]) hS298
     have hS300:SH _ _ _ _ _ [_,_,_,_,_,_,_,_,_]:=SH.front (p:=[_,_,_,_,_,_,_]) hS299
     have hS301:SH _ _ _ _ _ [_,_,_,_,pack (tailsOf 116 3 (cs84++[.slice a255 n256 c257,.slice a259 n260 c261,.slice a271 n272 c273]))]:=SH.tailsJoin (p:=[_,_,_,_]) (hrow85.1.2 rfl) hS300
     exact qe_mid' ⟨a73,n74,c75,a77,n78,c79,a286,n287,c288,(cs84++[.slice a255 n256 c257,.slice a259 n260 c261,.slice a271 n272 c273]),K281,rfl,hS301,(((hS254.le.trans hl268).trans hl276).trans hl282),(SliceAt.mono (((hS254.le.trans hl268).trans hl276).trans hl282) hs76),(SliceAt.mono (((hS254.le.trans hl268).trans hl276).trans hl282) hs80),hrow291,hm292⟩ ⟨rfl,rfl,rfl,rfl,trivial⟩
    ·refine wl_buildSlice0 tInt wn rfl Tryz.underlying71 tf3 hS119 ?_
     intro a302 w303 K304 hl305 hs306 hS307
     refine wl_nil (qe_held (listed':=#[true,true,true,true,true,true,true,true,false,true,true,true,true,true,true,true,false,false,false,false,false,false]) rfl ⟨⟨hS307.hasK hl305,hS307.hasObj (.tail _ (.head _))⟩,(fun _=>hS307.hasObj (.tail _ (.tail _ (.tail _ (.head _))))),by decide⟩ ?_)
     refine wg_one (i:=8) (by kernel_rfl) rfl ?_
     refine wl_call wn rfl (rt_call (vs:=[.agg #[.slice a221 n222 c223,.slice a225 n226 c227]]) co174 rfl) ((ok_spec_l18CopySeg F) hS307.enter0 (SliceAt.mono hl305 hs224) (SliceAt.mono hl305 hs228) hx163) ?_
     rintro e319 w309 ⟨a311,n312,c313,a315,n316,c317,K308,rfl,hS310,hs314,hs318⟩
     refine⟨_,rfl,?_⟩
     have hS320:SH _ _ _ _ _ [_,_,_,_,_,_,_,_]:=SH.call0 hS307 hS310
     refine wl_nil (qe_held (listed':=L_ 22 15) rfl ⟨⟨hS320.hasK (hl305.trans hS310.le),hS320.hasObj (.tail _ (.tail _ (.tail _ (.head _))))⟩,(fun _=>hS320.hasObj (.tail _ (.tail _ (.tail _ (.tail _ (.tail _ (.head _))))))),by decide⟩ ?_)
     refine wg_one (i:=16) (by kernel_rfl) rfl ?_
     have hS321:SH _ _ _ _ _ [_,_,_,_,_,_,_,_]:=SH.front (p:=[_,_]) hS320
     refine wl_append (t:=tInt) wn rfl Tryz.underlying71 tf3 rfl rfl rfl rfl rfl (SliceAt.mono hS310.le hs306) (SliceAt.mono (hl305.trans hS310.le) hs250) hx185 hS321 ?_
     intro a322 n323 c324 w325 K326 hl327 hs328 hS329
     refine wl_nil (qe_held (listed':=L_ 22 16) rfl ⟨⟨hS329.hasK ((hl305.trans hS310.le).trans hl327),hS329.hasObj (.tail _ (.tail _ (.tail _ (.head _))))⟩,(fun _=>hS329.hasObj (.tail _ (.tail _ (.tail _ (.tail _ (.tail _ (.head _))))))),by decide⟩ ?_)
     refine wg_val (i:=17) (listed':=L_ 22 17) (fun _=>True) rfl (by kernel_rfl) (pk_then (pk_block (pk_then (pk_then (pk_block (pk_then (pk_then pk_body))))))) (by kernel_rfl) rfl (by kernel_rfl) (by kernel_rfl) rfl (.inl fun _ _=>trivial) ⟨⟨hS329.hasK ((hl305.trans hS310.le).trans hl327),hS329.hasObj (.tail _ (.tail _ (.tail _ (.head _))))⟩,(fun _=>hS329.hasObj (.tail _ (.tail _ (.tail _ (.tail _ (.tail _ (.head _))))))),by decide⟩ wn rfl (fun _ _=>(rv_build (cs:=#[.slice a311 n312 c313,.slice a315 n316 c317,.slice a322 n323 c324]) sp73 tf73 rfl (by kernel_rfl))) ?_
     refine wg_one (i:=18) (by kernel_rfl) rfl ?_
     refine wl_buildSlice (t:=tGLive.wc) (n:=1) (pv:=[(0,.agg #[.slice a311 n312 c313,.slice a315 n316 c317,.slice a322 n323 c324])]) (cs:=[.slice a311 n312 c313,.slice a315 n316 c317,.slice a322 n323 c324]) (xs:=[((GLive.mk r162 x184),[.slice a311 n312 c313,.slice a315 n316 c317,.slice a322 n323 c324])]) wn rfl Tryz.underlying34 tf73 rfl rfl rfl (by kernel_rfl) rfl rfl (lit_cons (t:=tGLive.wc) (u:=.agg #[.slice a311 n312 c313,.slice a315 n316 c317,.slice a322 n323 c324]) (z:=((GLive.mk r162 x184),[.slice a311 n312 c313,.slice a315 n316 c317,.slice a322 n323 c324])) ⟨⟨a311,n312,c313,a315,n316,c317,a322,n323,c324,rfl,(SliceAt.mono hl327 hs314),(SliceAt.mono hl327 hs318),hs328⟩,rfl⟩ lit_nil) hS329 ?_
     intro a330 w331 K332 hl333 hs334 hS335
     refine wl_nil (qe_held (listed':=L_ 22 18) rfl ⟨⟨hS335.hasK (((hl305.trans hS310.le).trans hl327).trans hl333),hS335.hasObj (.tail _ (.tail _ (.tail _ (.tail _ (.head _)))))⟩,(fun _=>hS335.hasObj (.tail _ (.tail _ (.tail _ (.tail _ (.tail _ (.tail _ (.head _)))))))),by decide⟩ ?_)
     refine wg_one (i:=19) (by kernel_rfl) rfl ?_
     have hS336:SH _ _ _ _ _ [_,_,_,_,_,_,_,_,_]:=SH.front (p:=[_,_,_,_,_,_,_]) hS335
     refine wl_appendT (t:=tGLive) wn rfl Tryz.underlying34 tf73 rfl rfl rfl rfl (RowAt.mono (((hl305.trans hS310.le).trans hl327).trans hl333) hrow85) hm86 hs334 hx203 hS336 ?_
     intro a337 n338 c339 w341 hrow342 hm343 hS344
     refine wl_nil (qe_held (listed':=L_ 22 19) rfl ⟨⟨hS344.hasK (((hl305.trans hS310.le).trans hl327).trans hl333),hS344.hasObj (.tail _ (.tail _ (.tail _ (.tail _ (.tail _ (.head _))))))⟩,(fun _=>hS344.hasObj (.tail _ (.tail _ (.tail _ (.tail _ (.tail _ (.tail _ (.tail _ (.head _))))))))),by decide⟩ ?_)
     refine wg_val (i:=20) (listed':=L_ 22 20) (fun _=>True) rfl (by kernel_rfl) (pk_then (pk_block (pk_then (pk_then (pk_block (pk_then (pk_then pk_body))))))) (by kernel_rfl) rfl (by kernel_rfl) (by kernel_rfl) rfl (.inl fun _ _=>trivial) ⟨⟨hS344.hasK (((hl305.trans hS310.le).trans hl327).trans hl333),hS344.hasObj (.tail _ (.tail _ (.tail _ (.tail _ (.tail _ (.head _))))))⟩,(fun _=>hS344.hasObj (.tail _ (.tail _ (.tail _ (.tail _ (.tail _ (.tail _ (.tail _ (.head _))))))))),by decide⟩ wn rfl (fun _ _=>(rv_fieldAddr ff36_1 rfl)) ?_
     refine wg_one (i:=21) (by kernel_rfl) rfl ?_
     have hS345:SH _ _ _ _ _ [_,_,_,_,_,_,_,_,_]:=SH.front (p:=[_,_,_,_,_,_,_]) hS344
     refine wl_store (cs':=[.slice a73 n74 c75,.slice a77 n78 c79,.slice a337 n338 c339]) (v:=.slice a337 n338 c339) wn tf34 rfl rfl rfl (by simp [Value.cells,Value.oneCell']) hS345 rfl rfl ?_
     intro w346 hS347
     refine wl_nil (qe_held (listed':=L_ 22 21) rfl ⟨⟨hS347.hasK (((hl305.trans hS310.le).trans hl327).trans hl333),hS347.hasObj (.tail _ (.tail _ (.tail _ (.tail _ (.tail _ (.tail _ (.head _)))))))⟩,(fun h=>nomatch h),by decide⟩ ?_)
     refine wg_done (by kernel_rfl) ?_
     obtain rfl:=oi h204
     have hS348:SH _ _ _ _ _ [_,_,_,_,_,_,_,_,_]:=SH.front (p:=[_]) hS347
     have hS349:SH _ _ _ _ _ [_,_,_,_,_,_,_,_,_]:=SH.front (p:=[_]) hS348
     have hS350:SH _ _ _ _ _ [_,_,_,_,_,_,_,_,_]:=SH.front (p:=[_,_,_,_,_,_,_]) hS349
     have hS351:SH _ _ _ _ _ [_,_,_,_,_,_,_,_,_]:=SH.front (p:=[_,_,_,_,_,_,_]) hS350
     have hS352:SH _ _ _ _ _ [_,_,_,_,pack (tailsOf 116 3 (cs84++[.slice a311 n312 c313,.slice a315 n316 c317,.slice a322 n323 c324]))]:=SH.tailsJoin (p:=[_,_,_,_]) (hrow85.1.2 rfl) hS351
     exact qe_mid' ⟨a73,n74,c75,a77,n78,c79,a337,n338,c339,(cs84++[.slice a311 n312 c313,.slice a315 n316 c317,.slice a322 n323 c324]),K332,rfl,hS352,(((hl305.trans hS310.le).trans hl327).trans hl333),(SliceAt.mono (((hl305.trans hS310.le).trans hl327).trans hl333) hs76),(SliceAt.mono (((hl305.trans hS310.le).trans hl327).trans hl333) hs80),hrow342,hm343⟩ ⟨rfl,rfl,rfl,rfl,trivial⟩
   ·rintro _ w102 ⟨a104,n105,c106,a108,n109,c110,a112,n113,c114,cs115,K100,rfl,hS103,hl101,hs107,hs111,hrow116,hm117⟩
    refine qe_block ?_
    refine qe_seq ?_
    refine wc_region ?_
    refine vm rfl rfl ?_
    refine wl_val wn rfl (rv_add rfl rfl) ?_
    refine va rfl rfl ?_
    refine wl_nil ?_
    obtain rfl:=oi h99
    exact qe_mid' ⟨_,rfl,a104,n105,c106,a108,n109,c110,a112,n113,c114,cs115,K100,rfl,hS103,(hl69.trans hl101),(w64_rng _),hs107,hs111,hrow116,hm117⟩ ⟨rfl,rfl,rfl,rfl,trivial⟩
  ·have h96:=cond_f hb95 h93
   refine wc_exit ?_
   refine qe_then_exit ?_
   refine qe_then_exit ?_
   obtain rfl:=oi h96
   have e353:=hx94 _ rfl
   subst e353
   refine qe_block_eq ?_
   obtain rfl:=oi h67
   have hS354:SH _ _ _ _ _ [_,_,_,_]:=SH.sublist hS71 (.cons _ (.cons_cons _ (.cons_cons _ (.cons_cons _ (.cons_cons _ .slnil)))))
   exact qe_mid' ⟨a73,n74,c75,a77,n78,c79,a81,n82,c83,cs84,K68,rfl,hS354,hl69,hs76,hs80,hrow85,hm86⟩ ⟨rfl,rfl,trivial⟩
 ·rintro _ w48 ⟨a50,n51,c52,a54,n55,c56,a58,n59,c60,cs61,K46,rfl,hS49,hl47,hs53,hs57,hrow62,hm63⟩
  refine qr ?_
  refine wl_val wn rfl (rv_loadmS (ds:=[.slice a50 n51 c52,.slice a54 n55 c56,.slice a58 n59 c60]) tf36 rfl (.tail _ (.head _)) hS49 rfl rfl) ?_
  refine wl_store (cs':=[.slice a50 n51 c52,.slice a54 n55 c56,.slice a58 n59 c60]) (v:=.agg #[.slice a50 n51 c52,.slice a54 n55 c56,.slice a58 n59 c60]) wn tf36 rfl rfl rfl (by simp [Value.cells,Value.oneCell']) hS49 rfl rfl ?_
  intro w355 hS356
  refine nq ?_
  refine wc_ret ?_
  obtain rfl:=oi h45
  have hS357:SH _ _ _ _ _ [_,_]:=SH.sublist hS356 (.cons _ (.cons _ (.cons_cons _ (.cons_cons _ .slnil))))
  exact qe_ret (vs:=[_]) Tryz.results110 ⟨⟨_,_,rfl,run_loadVar_at tf36 (cs:=[.slice a50 n51 c52,.slice a54 n55 c56,.slice a58 n59 c60]) (fun j c e=>by rw [Nat.zero_add,hS356.mem_obj (.head _)];exact e) (.inl ⟨rfl,rfl,rfl⟩)⟩,trivial⟩ ⟨a50,n51,c52,a54,n55,c56,a58,n59,c60,cs61,K46,rfl,hS357,hs53,hs57,hrow62,hm63⟩
end Go.Proofs.YtpjefkdclnmlfaaGreat
