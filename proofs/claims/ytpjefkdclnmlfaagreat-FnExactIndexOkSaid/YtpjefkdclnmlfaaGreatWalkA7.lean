/-
 Walks of the functions. Printed by gen.py.
-/
import Derived.Test.YtpjefkdclnmlfaaGreatLawDocsT
import Derived.Test.YtpjefkdclnmlfaaGreatCoreQp
import Derived.Test.YtpjefkdclnmlfaaGreatWalkA4
import Derived.Test.YtpjefkdclnmlfaaGreatWalkA5
import Derived.Test.YtpjefkdclnmlfaaGreatWalkA6
set_option linter.unusedVariables false
set_option linter.unusedSectionVars false
set_option maxRecDepth 100000
namespace Go.Proofs.YtpjefkdclnmlfaaGreat
set_option maxHeartbeats 4000000
open Go Go.Fk Go.RowKit Tryz
variable (F:Nat){w:World}{K:KMap}{Z:List Nat}{g1 g2 g3:Nat}{A B C D G H I J O R S T:Option Addr}{a b c d f i k l m n o p q s v x y aa ab ac ad ae af ag:Nat}
variable [dr:Dr]

theorem ok_impl_liveOk {q0:GConf}{q1:GLive}{r:Bool}(hS:SH w K [] w K [])(ak:SliceAt tStr K A a b q0.Stops)(am:SliceAt tGSyn K B c d q0.Syns)(T:SliceAt tGDoc K C f i q1.Seg.Docs)(U:SliceAt tGEntry K D k l q1.Seg.Entries)(y:SliceAt tInt K G m n q1.Dead)(hm:M.impl_liveOk F q0 q1=some r):
  Calls prog 60 #[.agg #[V3 A a b,V3 B c d],.agg #[V3 C f i,V3 D k l,V3 G m n]] w (R_b w K r):=by
 rw [M.impl_liveOk] at hm
 refine ci func60 u ntmps60 (sr (bx u hS fun an bp ao=>?_))
 have ap:SH _ _ _ _ _ [obj an [V3 A a b,V3 B c d] 33]:=ao
 refine bx u ap fun s bq aq=>?_
 have I:SH _ _ _ _ _ [obj s [V3 C f i,V3 D k l,V3 G m n] 73,_]:=aq
 refine lv (r_f u) (ns (wc_seq ?_))
 obtain⟨ar,au,aw⟩:=ob hm
 refine wc_cutg (IV w K [] K [(3,pt s),(19,.bool ar)] [obj s [V3 C f i,V3 D k l,V3 G m n] 73]) ?_ ?_
 ·refine wc_region (lv (rv_loadmS (ds:=[V3 A a b,V3 B c d]) tf33 u m1 I u u) (fa ff73_0 u (lv (rv_loadmS (ds:=[V3 C f i,V3 D k l]) tf46 u m0 I u u) ?_)))
  obtain⟨br,ax,ay⟩:=ob au
  refine lk co94 (ok_impl_SegOk F I.enter0 ak am T U ax) ?_
  rintro bs bu ⟨az,rfl,J⟩
  have O:=(I.c0 J).t2
  refine lv (rv_not u) (mv u (bt ay (fun o V=>?_) (fun o V=>?_)))
  ·refine lu o (lu o (lu o (lu o (lv (p_t u o u) (wl_nil ?_)))))
   cases oi V
   exact qd ⟨az,u,O.s,J.le⟩
  refine lg o (rv_fieldAddr ff73_1 u) (lg o (rv_loadm1 tf71 u m0 O u) ?_)
  obtain⟨bv,aA,aB⟩:=ob V
  refine wl_call (wg u u o) u (rt_call (vs:=[V3 G m n]) co126 u) (ok_impl_UpOk F O.enter0 (y.mono J.le) aA) ?_
  rintro bz bA ⟨aC,rfl,ac⟩
  refine⟨_,u,?_⟩
  have aD:=(O.c0 ac).t2
  refine lg o (rv_not u) (lv (rv_pick_f u o u) (wl_nil ?_))
  cases oi aB
  exact qd ⟨aC,u,aD.s,(J.le.trans ac.le)⟩
 rintro _ bB ⟨R,rfl,W,q⟩
 refine qe_seq (wcc aw u (fun aE X=>?_) (fun aE X=>?_))
 ·refine sr (lv (r_f u) (nq (rr ?_)))
  cases oi X
  exact ey results60 ⟨R,u,W.s⟩
 refine wc_skip (qs (sr (fl ff73_1 u tf71 m0 W u (lv (rv_len underlying71 u (y.mono q)) (lv (r_m u) (nq ?_))))))
 obtain⟨aF,aG,S⟩:=ob X
 refine wc_cutg (IE aF w K [] R [(3,pt s)] [obj s [V3 C f i,V3 D k l,V3 G m n] 73]) ?_ ?_
 ·refine wc_block ?_
  obtain⟨bC,aH,ad⟩:=ob aG
  refine qf (fun (ae:Nat) (af:Unit)=>IV w K [] R [(3,pt s),(21,V3 G m n),(22,V6 (q1.Dead.length:Int)),(23,V6 ((ae:Nat):Int))] [obj s [V3 C f i,V3 D k l,V3 G m n] 73]) aH ⟨R,u,W,kr⟩ ?_ ?_
  ·rintro ae af _ aI bD hi77 aJ aK ⟨ag,rfl,H,x⟩
   refine sr (lv (rv_lss u u) (ns (wc_cond_t u (decide_eq_true (by omega)) (wc_skip (qe_seq (wc_seq (wc_block (sr ?_))))))))
   obtain⟨aL,aM,aN⟩:=ob aJ
   refine li underlying71 tf3 (y.mono (q.trans x)) aM fun aO aP bE aQ aR=>?_
   obtain⟨rfl,aS⟩:=aQ
   have aT:AtK _ aO aP [V6 aL]:=aR
   refine lv (rv_load1 tf3 u H (aT 0 _ u)) (av u (nr (fa ff73_0 u (mv u ?_))))
   obtain⟨aU,aV,aW⟩:=ob aN
   refine lk co127 (ok_impl_Seg_doc__ofGLive0 F H.e1 (T.mono (q.trans x)) (U.mono (q.trans x)) (y.mono (q.trans x)) aS aV) ?_
   rintro bF bG ⟨aX,aY,aZ,ba,bb,bc,ah,rfl,ai,bH,bI,bJ⟩
   have bd:=(H.c1 ai).t1
   refine mv u (lv (rv_extract u u) (lv (rv_extract u u) (al tf77 bd fun be bK bf=>?_)))
   have bg:SH _ _ _ _ _ [obj be [V6 0,V3 none 0 0,V3 none 0 0] 77,_]:=bf
   refine lw [V6 aU.1.Id,V3 aX aY aZ,V3 ba bb bc] tf77 bg fun bL aj=>(av u (nr (mv u (lv (rv_not u) (nq (wcc aW u (fun bh Y=>?_) (fun bh Y=>?_)))))))
   ·refine sr (lv (r_f u) (nq (wc_ret (qe_block_ret (qe_then_ret (qe_then_ret ?_))))))
    cases oi Y
    cases aK _ u
    refine qe_block_ret (qe_then_ret ?_)
    cases oi ad
    refine qe_then_ret ?_
    cases oi S
    exact ey results60 ⟨ah,u,aj.s⟩
   refine wc_skip (qe_block (qg (lv (rv_add_to u u (w64_succ hi77 (SliceAt.max (y.mono q)))) (mv u (wl_nil ?_)))))
   cases oi Y
   exact qd ⟨_,u,ah,u,aj.s,(x.trans ai.le)⟩
  rintro af _ aI bi ⟨ag,rfl,H,x⟩
  subst bi
  refine sr (lv (rv_lss u u) (ns (wc_cond_f u (decide_eq_false (by omega)) (wc_exit (qe_then_exit (qe_then_exit (qe_block_eq ?_)))))))
  cases oi ad
  exact qd ⟨_,ag,u,u,H,x⟩
 rintro _ bM ⟨bN,bO,rfl,rfl,aa,ab⟩
 have S:=elim_l S
 refine qr (lv (rv_loadmS (ds:=[V3 C f i,V3 D k l,V3 G m n]) tf73 u m0 aa u u) ?_)
 obtain⟨bP,bj,bk⟩:=ob S
 refine lk co128 (ok_impl_Live_alive F aa.enter0 (T.mono (q.trans ab)) (U.mono (q.trans ab)) (y.mono (q.trans ab)) bj) ?_
 rintro bQ bR ⟨bS,bT,bU,bl,rfl,bm,bn⟩
 have bo:=(aa.c0 bm).t2
 refine lv (rv_len underlying43 u bn) (lv (rv_gtr u u) (av u (nq (wc_ret ?_))))
 cases oi bk
 exact ey results60 ⟨bl,u,bo.s⟩

theorem ok_cmp_isNaN_int {q0:Int}{r:Bool}(hS:SH w K [] w K [])(a:rng64 q0)(hm:M.cmp_isNaN_int F q0=some r):
  Calls prog 189 #[V6 q0] w (R_b w K r):=by
 rw [M.cmp_isNaN_int] at hm
 refine ci func189 u ntmps189 (sr (lv (r_f u) (nr (mv u (mv u (lv (rv_neq u u) (av u (nq (wc_ret ?_)))))))))
 cases oi hm
 exact ey results189 ⟨K,u,hS⟩

theorem ok_cmp_Compare_int {q0:Int}{q1:Int}{r:Int}(hS:SH w K [] w K [])(m:rng64 q0)(o:rng64 q1)(hm:M.cmp_Compare_int F q0 q1=some r):
  Calls prog 131 #[V6 q0,V6 q1] w (R_i w K r):=by
 rw [M.cmp_Compare_int] at hm
 refine ci func131 u ntmps131 (sr (lv (r_0 u) (nr (mv u ?_))))
 obtain⟨J,q,s⟩:=ob hm
 refine lk co189 (ok_cmp_isNaN_int F hS.enter0 m q) ?_
 rintro O R ⟨S,rfl,x⟩
 have l:=(hS.c0 x).t0
 refine av u (nr (mv u ?_))
 obtain⟨T,y,A⟩:=ob s
 refine lk co189 (ok_cmp_isNaN_int F l.enter0 o y) ?_
 rintro U V ⟨a,rfl,B⟩
 have b:=(l.c0 B).t0
 refine av u (nsr (mv u (nq (wcc A u (fun C c=>?_) (fun C c=>?_)))))
 ·refine wc_seq (sr (mv u (nq (wcc c u (fun D d=>?_) (fun D d=>?_)))))
  ·refine sr (lv (r_0 u) (nq (rr (qe_then_ret ?_))))
   cases oi d
   exact ey results131 ⟨a,u,b,d_0⟩
  refine wc_skip (qr (lv (rv_assign (v:=V6 (-1)) u) (nq (rr ?_))))
  cases oi d
  exact ey results131 ⟨a,u,b,(by decide :rng64 (-1))⟩
 refine wc_skip (qs (sr (mv u (nq (wcc c u (fun G f=>?_) (fun G f=>?_))))))
 ·refine sr (lv (rv_assign (v:=V6 1) u) (nq (rr ?_)))
  cases oi f
  exact ey results131 ⟨a,u,b,(by decide :rng64 1)⟩
 refine wc_skip (qs (sr (mv u (mv u (lv (rv_lss u u) (nq (wcc f u (fun H i=>?_) (fun H i=>?_))))))))
 ·refine sr (lv (rv_assign (v:=V6 (-1)) u) (nq (rr ?_)))
  cases oi i
  exact ey results131 ⟨a,u,b,(by decide :rng64 (-1))⟩
 refine wc_skip (qs (sr (mv u (mv u (lv (rv_gtr u u) (nq (wcc i u (fun I k=>?_) (fun I k=>?_))))))))
 ·refine sr (lv (rv_assign (v:=V6 1) u) (nq (rr ?_)))
  cases oi k
  exact ey results131 ⟨a,u,b,(by decide :rng64 1)⟩
 refine wc_skip (qr (lv (r_0 u) (nq (wc_ret ?_))))
 cases oi k
 exact ey results131 ⟨a,u,b,d_0⟩

theorem ok_impl_allAlive_1 {q0:GDoc}{q1:GDoc}{r:Int}(hS:SH w K [] w K [])(o:rng64 q0.Id)(U:SliceAt tGField K A a b q0.Fields)(V:SliceAt tGAttr K B c d q0.Nums)(q:rng64 q1.Id)(W:SliceAt tGField K C f i q1.Fields)(X:SliceAt tGAttr K D k l q1.Nums)(hm:M.impl_allAlive_1 F q0 q1=some r):
  Calls prog 130 #[.agg #[V6 q0.Id,V3 A a b,V3 B c d],.agg #[V6 q1.Id,V3 C f i,V3 D k l]] w (R_i w K r):=by
 rw [M.impl_allAlive_1] at hm
 refine ci func130 u ntmps130 (sr (bx u hS fun s Y x=>?_))
 have y:SH _ _ _ _ _ [obj s [V6 q0.Id,V3 A a b,V3 B c d] 77]:=x
 refine bx u y fun G aa H=>?_
 have m:SH _ _ _ _ _ [obj G [V6 q1.Id,V3 C f i,V3 D k l] 77,_]:=H
 refine lv (r_0 u) (nr (fl ff77_0 u tf3 m1 m u (fl ff77_0 u tf3 m0 m u ?_)))
 obtain⟨ab,I,J⟩:=ob hm
 refine lk co131 (ok_cmp_Compare_int F m.enter0 o q I) ?_
 rintro ac ad ⟨O,rfl,R,S⟩
 have T:=(m.c0 R).t2
 refine av u (nq (wc_ret ?_))
 cases oi J
 exact ey results130 ⟨O,u,T.s,S⟩

theorem ok_impl_allAlive {q0:List GLive}{r:(List GDoc)}(hS:SH w K [] w K [])(C:SliceAt tGLive K A a b q0)(hm:M.impl_allAlive F q0=some r):
  Calls prog 61 #[V3 A a b] w fun e w'=>∃a_1 n_2 c_3 K' ys,e= .returned (V3 a_1 n_2 c_3)∧SH w K [] w' K' [tail (V3 a_1 n_2 c_3) 77 3]∧SliceAt tGDoc K' a_1 n_2 c_3 ys∧ys.Perm r∧ys.Pairwise (fun a b=>a.Id≤b.Id):=by
 have hbX:=alive_bound hm
 rw [M.impl_allAlive] at hm
 refine ci func61 rfl ntmps61 (sr (lv (r_n rfl) (nr (wl_buildSlice0R tGDoc wn rfl underlying43 tf77 hS fun a5 w6 ac=>(av rfl (nsr (mv rfl (lv (rv_len underlying34 rfl C) (lv (r_m rfl) ?_)))))))))
 refine nq ?_
 obtain⟨Y,h9,ae⟩:=ob hm
 refine wc_cutg (fun E' w'=>∃i c k cs18 o,E'=[(3,V3 i c k)]∧SH w K [] w' o [rowI (V3 i c k) cs18 77 3]∧KLe K o∧RowAt true tGDoc o cs18 Y∧c=Y.length) ?_ ?_
 ·refine wc_block ?_
  obtain⟨bc,af,ag⟩:=ob h9
  refine qF (fun (aa:Nat) (q:(List GDoc)) E' w'=>∃l d m cs33 f,E'=[(3,V3 l d m),(7,V3 A a b),(8,V6 (q0.length:Int)),(9,V6 ((aa:Nat):Int))]∧SH w K [] w' f [rowI (V3 l d m) cs33 77 3]∧KLe K f∧RowAt true tGDoc f cs33 q∧d=q.length) af ⟨a5,0,0,[],K,rfl,ac,kr,(RowAt.nil tGDoc _),rfl⟩ ?_ ?_
  ·rintro aa q _ ah bd hi37 ai ⟨l,d,m,cs33,f,rfl,s,B,hrow34,hm35⟩
   refine sr (lv (rv_lss rfl rfl) (ns (wc_cond_t rfl (decide_eq_true (by omega)) (wc_skip (qe_seq (wc_seq (wc_block (sr ?_))))))))
   obtain⟨be,aj,ak⟩:=ob ai
   refine li underlying34 tf73 (C.mono B) aj fun am an bf ao ap=>?_
   obtain⟨D,G,H,I,J,O,R,S,U,rfl,aq,ar,au⟩:=ao
   have aw:AtK _ am an [V3 D G H,V3 I J O,V3 R S U]:=ap
   refine lv (rv_loadS tf73 rfl s aw rfl) (al tf73 s fun ax bg ay=>?_)
   have az:SH _ _ _ _ _ [obj ax [V3 none 0 0,V3 none 0 0,V3 none 0 0] 73,_]:=ay
   refine lw [V3 D G H,V3 I J O,V3 R S U] tf73 az fun bh V=>(nq (wc_region (mv rfl (lv (rv_loadmS (ds:=[V3 D G H,V3 I J O,V3 R S U]) tf73 rfl m0 V rfl rfl) ?_))))
   obtain⟨bi,aA,aB⟩:=ob ak
   refine lk co128 (ok_impl_Live_alive F V.enter0 aq ar au aA) ?_
   rintro bj bk ⟨bl,bm,bn,aC,rfl,X,aD⟩
   have aE:=(V.c0 X).t3
   obtain⟨bo,aF,aG⟩:=ob aB
   refine wl_appendR (t:=tGDoc) wn rfl underlying43 tf77 rfl rfl rfl rfl (RowAt.mono X.le hrow34) hm35 aD aF aE.f2 fun aH aI aJ cs86 bp hrow88 hm89 aK=>(av rfl (nb (qg (lv (rv_add_to rfl rfl (w64_succ hi37 (SliceAt.max C))) (mv rfl (wl_nil ?_))))))
   cases oi aG
   exact qd ⟨aH,aI,aJ,cs86,aC,rfl,aK.s,(B.trans X.le),hrow88,hm89⟩
  rintro q _ ah aL ⟨l,d,m,cs33,f,rfl,s,B,hrow34,hm35⟩
  subst aL
  refine sr (lv (rv_lss rfl rfl) (ns (wc_cond_f rfl (decide_eq_false (by omega)) (wc_exit (qe_then_exit (qe_then_exit (qe_block_eq ?_)))))))
  cases oi ag
  exact qd ⟨l,d,m,cs33,f,rfl,s,B,hrow34,hm35⟩
 rintro _ bq ⟨i,c,k,cs18,o,rfl,aM,br,hrow19,hm20⟩
 refine qr (mv rfl ?_)
 cases oi ae
 have hlX:=alive_len hbX
 refine wl_call wn rfl (rt_call (vs:=[V3 i c k,.func (.func 130) #[] #[]]) co129 rfl) (sort_rowP (T:=tGDoc) sortLay129 sortNone129 rfl (fun w=>Go.Fk.run_isAgg tf77 w) (fun w=>Go.Fk.run_sizeOf tf77 w) (fun a b=>M.impl_allAlive_1 F a b) 130 (Go.Proofs.enters_of func130 (by kernel_rfl) rfl) aM hrow19 hm20 (fun K1 W v x u y r hW h1 h2 hm=>by
  obtain⟨bv,bx,bz,bA,bB,bC,rfl,aR,aS,aT⟩:=h1
  obtain⟨bD,bE,bF,bG,bH,bI,rfl,aU,aV,aW⟩:=h2
  exact(ok_impl_allAlive_1 (dr:=⟨True⟩) F (SH.start (dr:=⟨True⟩) hW) aR aS aT aU aV aW hm).mono fun e w' ⟨K',he,hS',_⟩=>⟨K',he,hS'⟩) hlX (alive_some F _) (alive_irr F _) (alive_tr F _) (alive_ntr F _)) ?_
 rintro bJ bK ⟨cs114,ysX,rfl,aX,hrow116,hm117,hpX,hwX⟩
 refine⟨_,rfl,?_⟩
 refine nr (mv rfl (av rfl (nq (wc_ret ?_))))
 obtain⟨aY,bL,aZ,ba⟩:=SH.freezeI aX hrow116 hm117
 exact ey results61 ⟨i,c,k,aY,ysX,rfl,ba,aZ,hpX,alive_up hwX⟩

theorem ok_impl_IndexOk {q0:GIndex}{r:Bool}(hS:SH w K [] w K [])(ae:SliceAt tStr K A a b q0.Conf.Stops)(af:SliceAt tGSyn K B c d q0.Conf.Syns)(q:SliceAt tGLive K C f i q0.Segs)(hm:M.impl_IndexOk F q0=some r):
  Calls prog 14 #[.agg #[V3 A a b,V3 B c d,V3 C f i]] w (R_b w K r):=by
 rw [M.impl_IndexOk] at hm
 refine ci func14 u ntmps14 (sr (bx u hS fun l bh aq=>?_))
 have H:SH _ _ _ _ _ [obj l [V3 A a b,V3 B c d,V3 C f i] 36]:=aq
 refine lv (r_f u) (ns (wc_seq ?_))
 obtain⟨ar,au,aw⟩:=ob hm
 refine wc_cutg (IV w K [] K [(1,pt l),(14,.bool ar)] [obj l [V3 A a b,V3 B c d,V3 C f i] 36]) ?_ ?_
 ·refine wc_region (fa ff36_0 u (lv (rv_loadmS (ds:=[V3 A a b,V3 B c d]) tf33 u m0 H u u) ?_))
  obtain⟨bi,ax,ay⟩:=ob au
  refine lk co59 (ok_impl_ConfOk F H.enter0 ae af ax) ?_
  rintro bj bk ⟨ag,rfl,s⟩
  have I:=(H.c0 s).t1
  refine lv (rv_not u) (mv u (bt ay (fun k J=>?_) (fun k J=>?_)))
  ·refine lu k (lu k (lu k (lu k (lv (p_t u k u) (wl_nil ?_)))))
   cases oi J
   exact qd ⟨ag,u,I,s.le⟩
  refine lg k (rv_fieldAddr ff36_1 u) (lg k (rv_loadm1 tf34 u m0 I u) (lg k (rv_len underlying34 u (q.mono s.le)) (lg k (rv_gtr u u) (lv (rv_pick_f u k u) (wl_nil ?_)))))
  cases oi J
  exact qd ⟨ag,u,I,s.le⟩
 rintro _ bl ⟨x,rfl,O,m⟩
 refine qe_seq (wcc aw u (fun az R=>?_) (fun az R=>?_))
 ·refine sr (lv (r_f u) (nq (rr ?_)))
  cases oi R
  exact ey results14 ⟨x,u,O.s⟩
 refine wc_skip (qs (sr (fl ff36_1 u tf34 m0 O u (lv (rv_len underlying34 u (q.mono m)) (lv (r_m u) (nq ?_))))))
 obtain⟨aA,aB,y⟩:=ob R
 refine wc_cutg (IE aA w K [] x [(1,pt l)] [obj l [V3 A a b,V3 B c d,V3 C f i] 36]) ?_ ?_
 ·refine wc_block ?_
  obtain⟨bm,aC,ah⟩:=ob aB
  refine qf (fun (ai:Nat) (aj:Unit)=>IV w K [] x [(1,pt l),(16,V3 C f i),(17,V6 (q0.Segs.length:Int)),(18,V6 ((ai:Nat):Int))] [obj l [V3 A a b,V3 B c d,V3 C f i] 36]) aC ⟨x,u,O,kr⟩ ?_ ?_
  ·rintro ai aj _ aD bn hi55 aE aF ⟨ak,rfl,D,o⟩
   refine sr (lv (rv_lss u u) (ns (wc_cond_t u (decide_eq_true (by omega)) (wc_skip (qe_seq (wc_seq (wc_block (sr ?_))))))))
   obtain⟨bo,aG,aH⟩:=ob aE
   refine li underlying34 tf73 (q.mono (m.trans o)) aG fun aI aJ bp aK aL=>?_
   obtain⟨S,T,U,V,W,X,Y,aa,ab,rfl,aM,aN,aO⟩:=aK
   have aP:AtK _ aI aJ [V3 S T U,V3 V W X,V3 Y aa ab]:=aL
   refine lv (rv_loadS tf73 u D aP u) (al tf73 D fun aQ bq aR=>?_)
   have aS:SH _ _ _ _ _ [obj aQ [V3 none 0 0,V3 none 0 0,V3 none 0 0] 73,_]:=aR
   refine lw [V3 S T U,V3 V W X,V3 Y aa ab] tf73 aS fun br G=>(nr (fa ff36_0 u (lv (rv_loadmS (ds:=[V3 A a b,V3 B c d]) tf33 u m1 G u u) (lv (rv_loadmS (ds:=[V3 S T U,V3 V W X,V3 Y aa ab]) tf73 u m0 G u u) ?_))))
   obtain⟨bs,aT,aU⟩:=ob aH
   refine lk co60 (ok_impl_liveOk F G.enter0 (ae.mono (m.trans o)) (af.mono (m.trans o)) aM aN aO aT) ?_
   rintro bu bv ⟨am,rfl,an⟩
   have ao:=(G.c0 an).t2
   refine lv (rv_not u) (nq (wcc aU u (fun aV ac=>?_) (fun aV ac=>?_)))
   ·refine sr (lv (r_f u) (nq (wc_ret (qe_block_ret (qe_then_ret (qe_then_ret ?_))))))
    cases oi ac
    cases aF _ u
    refine qe_block_ret (qe_then_ret ?_)
    cases oi ah
    refine qe_then_ret ?_
    cases oi y
    exact ey results14 ⟨am,u,ao.s⟩
   refine wc_skip (qe_block (qg (lv (rv_add_to u u (w64_succ hi55 (SliceAt.max (q.mono m)))) (mv u (wl_nil ?_)))))
   cases oi ac
   exact qd ⟨_,u,am,u,ao.s,(o.trans an.le)⟩
  rintro aj _ aD aW ⟨ak,rfl,D,o⟩
  subst aW
  refine sr (lv (rv_lss u u) (ns (wc_cond_f u (decide_eq_false (by omega)) (wc_exit (qe_then_exit (qe_then_exit (qe_block_eq ?_)))))))
  cases oi ah
  exact qd ⟨_,ak,u,u,D,o⟩
 rintro _ bz ⟨bA,bB,rfl,rfl,ad,aX⟩
 have y:=elim_l y
 refine qr (fl ff36_1 u tf34 m0 ad u ?_)
 obtain⟨bC,aY,aZ⟩:=ob y
 refine lk co61 (ok_impl_allAlive F ad.enter0 (q.mono (m.trans aX)) aY) ?_
 rintro bD bE ⟨bF,bG,bH,bI,ysX,rfl,ba,bb,hpX,hwX⟩
 have ap:=(ad.c0 ba).t2
 obtain⟨bJ,bc,bd⟩:=ob aZ
 refine lk co45 (ok_impl_DocsOk F ap.enter0 bb ((docsT_any F (alive_fit (alive_bound aY)) hpX hwX).trans bc)) ?_
 rintro bK bL ⟨be,rfl,bf⟩
 have bg:=(ap.c0 bf).t2
 refine av u (nq (wc_ret ?_))
 cases oi bd
 exact ey results14 ⟨be,u,bg.s⟩

theorem ok_laws_eqStringS {q0:List Str}{q1:List Str}{r:Bool}(hS:SH w K [] w K [])(k:SliceAt tStr K A a b q0)(x:SliceAt tStr K B c d q1)(hm:M.laws_eqStringS F q0 q1=some r):
  Calls prog 80 #[V3 A a b,V3 B c d] w (R_b w K r):=by
 rw [M.laws_eqStringS] at hm
 refine ci func80 u ntmps80 (sr (lv (r_f u) (nsr (mv u (lv (rv_len underlying22 u k) (mv u (lv (rv_len underlying22 u x) (lv (rv_neq u u) (nq ?_)))))))))
 refine wc_cond u (fun l=>?_) (fun l=>?_)
 ·have m:=cond_t l hm
  refine sr (lv (r_f u) (nq (rr ?_)))
  cases oi m
  exact ey results80 ⟨K,u,hS⟩
 have m:=cond_f l hm
 refine wc_skip (qs (sr (lv (r_0 u) (nq ?_))))
 obtain⟨I,J,i⟩:=ob m
 refine wc_cutg (IE I w K [] K [] []) ?_ ?_
 ·refine wc_block ?_
  obtain⟨ap,O,y⟩:=ob J
  refine qw (fun (o:Int)=>IW w K [] K [(0,V3 A a b),(1,V3 B c d),(5,V6 o)] [] (rng64 o)) O ⟨K,u,hS,kr,d_0⟩ ?_
  rintro o _ aq ar R C ⟨S,rfl,D,f,au⟩
  refine wc_seq (sr (mv u (mv u (lv (rv_len underlying22 u (k.mono f)) (lv (rv_lss u u) (nq (wcc R u (fun T q=>?_) (fun T q=>?_))))))))
  ·refine wc_skip (qs (wc_block (wc_seq (wc_quiet mixed (by kernel_rfl) D (km u (km u ?_))))))
   obtain⟨U,V,W⟩:=ob q
   refine ki underlying22 tf9 (k.mono f) V fun X Y aw aa ab=>?_
   obtain⟨rfl,ax⟩:=aa
   have ac:AtK _ X Y [sv U]:=ab
   refine kh (rq_load1 tf9 u (ac 0 _ u)) (km u (km u ?_))
   obtain⟨ad,ae,af⟩:=ob W
   refine ki underlying22 tf9 (x.mono f) ae fun ag ah ay ai aj=>?_
   obtain⟨rfl,az⟩:=ai
   have ak:AtK _ ag ah [sv ad]:=aj
   refine kh (rq_load1 tf9 u (ak 0 _ u)) (kv (rv_sneq u u) (wq_nil ?_))
   rintro aA ⟨G,H,al⟩
   refine qe_seq (wcc af u (fun am s=>?_) (fun am s=>?_))
   ·refine sr (lv (r_f u) (nq (wc_ret (qe_block_ret (qe_then_ret (qe_then_ret ?_))))))
    cases oi s
    cases C _ u
    refine qe_block_ret (qe_then_ret ?_)
    cases oi y
    refine qe_then_ret ?_
    cases oi i
    exact ey results80 ⟨G,u,H⟩
   refine wc_skip (qe_block (qe_seq (wc_region (mv u (lv (rv_add u u) (av u (wl_nil ?_)))))))
   cases oi s
   exact qd ⟨_,u,G,u,H,(f.trans al),(w64_rng _)⟩
  refine wc_exit (qe_then_exit (qe_then_exit ?_))
  cases oi q
  cases C _ u
  refine qe_block_eq ?_
  cases oi y
  exact qe_mid' ⟨_,S,u,u,D,f⟩ trivial
 rintro _ aB ⟨aC,an,rfl,rfl,ao,aD⟩
 have i:=elim_l i
 refine qr (lv (r_t u) (nq (wc_ret ?_)))
 cases oi i
 exact ey results80 ⟨an,u,ao⟩

theorem ok_laws_eqSyn {q0:GSyn}{q1:GSyn}{r:Bool}(hS:SH w K [] w K [])(o:SliceAt tStr K A a b q0.From)(R:q0.To.length≤maxLen)(q:SliceAt tStr K B c d q1.From)(S:q1.To.length≤maxLen)(hm:M.laws_eqSyn F q0 q1=some r):
  Calls prog 157 #[.agg #[V3 A a b,sv q0.To],.agg #[V3 B c d,sv q1.To]] w (R_b w K r):=by
 rw [M.laws_eqSyn] at hm
 refine ci func157 u ntmps157 (sr (bx u hS fun s T x=>?_))
 have y:SH _ _ _ _ _ [obj s [V3 A a b,sv q0.To] 159]:=x
 refine bx u y fun C U D=>?_
 have i:SH _ _ _ _ _ [obj C [V3 B c d,sv q1.To] 159,_]:=D
 refine lv (r_f u) (nsr (fl ff159_0 u tf22 m1 i u (fl ff159_0 u tf22 m0 i u ?_)))
 obtain⟨V,G,H⟩:=ob hm
 refine lk co80 (ok_laws_eqStringS F i.enter0 o q G) ?_
 rintro W X ⟨k,rfl,I⟩
 have f:=(i.c0 I).t2
 refine lv (rv_not u) (nq (wcc H u (fun J l=>?_) (fun J l=>?_)))
 ·refine sr (lv (r_f u) (nq (rr ?_)))
  cases oi l
  exact ey results157 ⟨k,u,f.s⟩
 refine wc_skip (qs (sr (fl ff159_1 u tf9 m1 f u (fl ff159_1 u tf9 m0 f u (lv (rv_sneq u u) (nq (wcc l u (fun O m=>?_) (fun O m=>?_))))))))
 ·refine sr (lv (r_f u) (nq (rr ?_)))
  cases oi m
  exact ey results157 ⟨k,u,f.s⟩
 refine wc_skip (qr (lv (r_t u) (nq (wc_ret ?_))))
 cases oi m
 exact ey results157 ⟨k,u,f.s⟩

theorem ok_laws_eqSynS {q0:List GSyn}{q1:List GSyn}{r:Bool}(hS:SH w K [] w K [])(k:SliceAt tGSyn K A a b q0)(x:SliceAt tGSyn K B c d q1)(hm:M.laws_eqSynS F q0 q1=some r):
  Calls prog 81 #[V3 A a b,V3 B c d] w (R_b w K r):=by
 rw [M.laws_eqSynS] at hm
 refine ci func81 u ntmps81 (sr (lv (r_f u) (nsr (mv u (lv (rv_len underlying31 u k) (mv u (lv (rv_len underlying31 u x) (lv (rv_neq u u) (nq ?_)))))))))
 refine wc_cond u (fun l=>?_) (fun l=>?_)
 ·have m:=cond_t l hm
  refine sr (lv (r_f u) (nq (rr ?_)))
  cases oi m
  exact ey results81 ⟨K,u,hS⟩
 have m:=cond_f l hm
 refine wc_skip (qs (sr (lv (r_0 u) (nq ?_))))
 obtain⟨J,O,i⟩:=ob m
 refine wc_cutg (IE J w K [] K [] []) ?_ ?_
 ·refine wc_block ?_
  obtain⟨aG,R,y⟩:=ob O
  refine qw (fun (o:Int)=>IW w K [] K [(0,V3 A a b),(1,V3 B c d),(5,V6 o)] [] (rng64 o)) R ⟨K,u,hS,kr,d_0⟩ ?_
  rintro o _ aH aI S C ⟨T,rfl,D,f,aJ⟩
  refine wc_seq (sr (mv u (mv u (lv (rv_len underlying31 u (k.mono f)) (lv (rv_lss u u) (nq (wcc S u (fun U q=>?_) (fun U q=>?_))))))))
  ·refine wc_skip (qs (wc_block (wc_seq (wc_quiet mixed (by kernel_rfl) D (km u (km u ?_))))))
   obtain⟨V,W,X⟩:=ob q
   refine ki underlying31 tf159 (k.mono f) W fun Y aa aK ab ac=>?_
   obtain⟨ad,ae,af,rfl,ag,ah⟩:=ab
   have ai:AtK _ Y aa [V3 ad ae af,sv V.To]:=ac
   refine kh (rq_loadS tf159 u ai u) (km u (km u ?_))
   obtain⟨aj,ak,al⟩:=ob X
   refine ki underlying31 tf159 (x.mono f) ak fun am an aL ao ap=>?_
   obtain⟨aq,ar,au,rfl,aw,ax⟩:=ao
   have ay:AtK _ am an [V3 aq ar au,sv aj.To]:=ap
   refine kh (rq_loadS tf159 u ay u) ?_
   obtain⟨aM,az,aA⟩:=ob al
   refine kc co157 (fun _ _ aB G=>(ok_laws_eqSyn F) aB.enter0 (ag.mono G) ah (aw.mono G) ax az) (kv (rv_not u) (wq_nil ?_))
   rintro aN ⟨H,I,aC⟩
   refine qe_seq (wcc aA u (fun aD s=>?_) (fun aD s=>?_))
   ·refine sr (lv (r_f u) (nq (wc_ret (qe_block_ret (qe_then_ret (qe_then_ret ?_))))))
    cases oi s
    cases C _ u
    refine qe_block_ret (qe_then_ret ?_)
    cases oi y
    refine qe_then_ret ?_
    cases oi i
    exact ey results81 ⟨H,u,I⟩
   refine wc_skip (qe_block (qe_seq (wc_region (mv u (lv (rv_add u u) (av u (wl_nil ?_)))))))
   cases oi s
   exact qd ⟨_,u,H,u,I,(f.trans aC),(w64_rng _)⟩
  refine wc_exit (qe_then_exit (qe_then_exit ?_))
  cases oi q
  cases C _ u
  refine qe_block_eq ?_
  cases oi y
  exact qe_mid' ⟨_,T,u,u,D,f⟩ trivial
 rintro _ aO ⟨aP,aE,rfl,rfl,aF,aQ⟩
 have i:=elim_l i
 refine qr (lv (r_t u) (nq (wc_ret ?_)))
 cases oi i
 exact ey results81 ⟨aE,u,aF⟩

theorem ok_laws_eqConf {q0:GConf}{q1:GConf}{r:Bool}(hS:SH w K [] w K [])(H:SliceAt tStr K A a b q0.Stops)(I:SliceAt tGSyn K B c d q0.Syns)(J:SliceAt tStr K C f i q1.Stops)(O:SliceAt tGSyn K D k l q1.Syns)(hm:M.laws_eqConf F q0 q1=some r):
  Calls prog 23 #[.agg #[V3 A a b,V3 B c d],.agg #[V3 C f i,V3 D k l]] w (R_b w K r):=by
 rw [M.laws_eqConf] at hm
 refine ci func23 u ntmps23 (sr (bx u hS fun R af S=>?_))
 have T:SH _ _ _ _ _ [obj R [V3 A a b,V3 B c d] 33]:=S
 refine bx u T fun U ag V=>?_
 have o:SH _ _ _ _ _ [obj U [V3 C f i,V3 D k l] 33,_]:=V
 refine lv (r_f u) (nsr (fl ff33_0 u tf22 m1 o u (fl ff33_0 u tf22 m0 o u ?_)))
 obtain⟨ah,W,X⟩:=ob hm
 refine lk co80 (ok_laws_eqStringS F o.enter0 H J W) ?_
 rintro ai aj ⟨Y,rfl,q⟩
 have m:=(o.c0 q).t2
 refine lv (rv_not u) (nq (wcc X u (fun aa s=>?_) (fun aa s=>?_)))
 ·refine sr (lv (r_f u) (nq (rr ?_)))
  cases oi s
  exact ey results23 ⟨Y,u,m.s⟩
 refine wc_skip (qs (sr (fl ff33_1 u tf31 m1 m u (fl ff33_1 u tf31 m0 m u ?_))))
 obtain⟨ak,ab,ac⟩:=ob s
 refine lk co81 (ok_laws_eqSynS F m.enter0 (I.mono q.le) (O.mono q.le) ab) ?_
 rintro al am ⟨y,rfl,ad⟩
 have G:=(m.c0 ad).t2
 refine lv (rv_not u) (nq (wcc ac u (fun ae x=>?_) (fun ae x=>?_)))
 ·refine sr (lv (r_f u) (nq (rr ?_)))
  cases oi x
  exact ey results23 ⟨y,u,G.s⟩
 refine wc_skip (qr (lv (r_t u) (nq (wc_ret ?_))))
 cases oi x
 exact ey results23 ⟨y,u,G.s⟩

theorem ok_laws_eqField {q0:GField}{q1:GField}{r:Bool}(hS:SH w K [] w K [])(q:q0.Name.length≤maxLen)(s:q0.Text.length≤maxLen)(x:q1.Name.length≤maxLen)(y:q1.Text.length≤maxLen)(hm:M.laws_eqField F q0 q1=some r):
  Calls prog 212 #[.agg #[sv q0.Name,sv q0.Text],.agg #[sv q1.Name,sv q1.Text]] w (R_b w K r):=by
 rw [M.laws_eqField] at hm
 refine ci func212 u ntmps212 (sr (bx u hS fun f A i=>?_))
 have k:SH _ _ _ _ _ [obj f [sv q0.Name,sv q0.Text] 108]:=i
 refine bx u k fun l B m=>?_
 have a:SH _ _ _ _ _ [obj l [sv q1.Name,sv q1.Text] 108,_]:=m
 refine lv (r_f u) (nsr (fl ff108_0 u tf9 m1 a u (fl ff108_0 u tf9 m0 a u (lv (rv_sneq u u) (nq (wc_cond u (fun b=>?_) (fun b=>?_)))))))
 ·have c:=cond_t b hm
  refine sr (lv (r_f u) (nq (rr ?_)))
  cases oi c
  exact ey results212 ⟨K,u,a.s⟩
 have c:=cond_f b hm
 refine wc_skip (qs (sr (fl ff108_1 u tf9 m1 a u (fl ff108_1 u tf9 m0 a u (lv (rv_sneq u u) (nq (wcc c u (fun o d=>?_) (fun o d=>?_))))))))
 ·refine sr (lv (r_f u) (nq (rr ?_)))
  cases oi d
  exact ey results212 ⟨K,u,a.s⟩
 refine wc_skip (qr (lv (r_t u) (nq (wc_ret ?_))))
 cases oi d
 exact ey results212 ⟨K,u,a.s⟩

theorem ok_laws_eqFieldS {q0:List GField}{q1:List GField}{r:Bool}(hS:SH w K [] w K [])(k:SliceAt tGField K A a b q0)(x:SliceAt tGField K B c d q1)(hm:M.laws_eqFieldS F q0 q1=some r):
  Calls prog 158 #[V3 A a b,V3 B c d] w (R_b w K r):=by
 rw [M.laws_eqFieldS] at hm
 refine ci func158 u ntmps158 (sr (lv (r_f u) (nsr (mv u (lv (rv_len underlying74 u k) (mv u (lv (rv_len underlying74 u x) (lv (rv_neq u u) (nq ?_)))))))))
 refine wc_cond u (fun l=>?_) (fun l=>?_)
 ·have m:=cond_t l hm
  refine sr (lv (r_f u) (nq (rr ?_)))
  cases oi m
  exact ey results158 ⟨K,u,hS⟩
 have m:=cond_f l hm
 refine wc_skip (qs (sr (lv (r_0 u) (nq ?_))))
 obtain⟨O,R,i⟩:=ob m
 refine wc_cutg (IE O w K [] K [] []) ?_ ?_
 ·refine wc_block ?_
  obtain⟨az,S,y⟩:=ob R
  refine qw (fun (o:Int)=>IW w K [] K [(0,V3 A a b),(1,V3 B c d),(5,V6 o)] [] (rng64 o)) S ⟨K,u,hS,kr,d_0⟩ ?_
  rintro o _ aA aB T C ⟨U,rfl,D,f,aC⟩
  refine wc_seq (sr (mv u (mv u (lv (rv_len underlying74 u (k.mono f)) (lv (rv_lss u u) (nq (wcc T u (fun V q=>?_) (fun V q=>?_))))))))
  ·refine wc_skip (qs (wc_block (wc_seq (wc_quiet mixed (by kernel_rfl) D (km u (km u ?_))))))
   obtain⟨G,W,X⟩:=ob q
   refine ki underlying74 tf108 (k.mono f) W fun Y aa aD ab ac=>?_
   obtain⟨rfl,ad,ae⟩:=ab
   have af:AtK _ Y aa [sv G.Name,sv G.Text]:=ac
   refine kh (rq_loadS tf108 u af u) (km u (km u ?_))
   obtain⟨H,ag,ah⟩:=ob X
   refine ki underlying74 tf108 (x.mono f) ag fun ai aj aE ak al=>?_
   obtain⟨rfl,am,an⟩:=ak
   have ao:AtK _ ai aj [sv H.Name,sv H.Text]:=al
   refine kh (rq_loadS tf108 u ao u) ?_
   obtain⟨aF,ap,aq⟩:=ob ah
   refine kc co212 (fun _ _ ar aG=>(ok_laws_eqField F) ar.enter0 ad ae am an ap) (kv (rv_not u) (wq_nil ?_))
   rintro aH ⟨I,J,au⟩
   refine qe_seq (wcc aq u (fun aw s=>?_) (fun aw s=>?_))
   ·refine sr (lv (r_f u) (nq (wc_ret (qe_block_ret (qe_then_ret (qe_then_ret ?_))))))
    cases oi s
    cases C _ u
    refine qe_block_ret (qe_then_ret ?_)
    cases oi y
    refine qe_then_ret ?_
    cases oi i
    exact ey results158 ⟨I,u,J⟩
   refine wc_skip (qe_block (qe_seq (wc_region (mv u (lv (rv_add u u) (av u (wl_nil ?_)))))))
   cases oi s
   exact qd ⟨_,u,I,u,J,(f.trans au),(w64_rng _)⟩
  refine wc_exit (qe_then_exit (qe_then_exit ?_))
  cases oi q
  cases C _ u
  refine qe_block_eq ?_
  cases oi y
  exact qe_mid' ⟨_,U,u,u,D,f⟩ trivial
 rintro _ aI ⟨aJ,ax,rfl,rfl,ay,aK⟩
 have i:=elim_l i
 refine qr (lv (r_t u) (nq (wc_ret ?_)))
 cases oi i
 exact ey results158 ⟨ax,u,ay⟩

theorem ok_laws_eqAttr {q0:GAttr}{q1:GAttr}{r:Bool}(hS:SH w K [] w K [])(q:q0.Name.length≤maxLen)(s:rng64 q0.Num)(x:q1.Name.length≤maxLen)(y:rng64 q1.Num)(hm:M.laws_eqAttr F q0 q1=some r):
  Calls prog 213 #[.agg #[sv q0.Name,V6 q0.Num],.agg #[sv q1.Name,V6 q1.Num]] w (R_b w K r):=by
 rw [M.laws_eqAttr] at hm
 refine ci func213 u ntmps213 (sr (bx u hS fun f A i=>?_))
 have k:SH _ _ _ _ _ [obj f [sv q0.Name,V6 q0.Num] 142]:=i
 refine bx u k fun l B m=>?_
 have a:SH _ _ _ _ _ [obj l [sv q1.Name,V6 q1.Num] 142,_]:=m
 refine lv (r_f u) (nsr (fl ff142_0 u tf9 m1 a u (fl ff142_0 u tf9 m0 a u (lv (rv_sneq u u) (nq (wc_cond u (fun b=>?_) (fun b=>?_)))))))
 ·have c:=cond_t b hm
  refine sr (lv (r_f u) (nq (rr ?_)))
  cases oi c
  exact ey results213 ⟨K,u,a.s⟩
 have c:=cond_f b hm
 refine wc_skip (qs (sr (fl ff142_1 u tf3 m1 a u (fl ff142_1 u tf3 m0 a u (lv (rv_neq u u) (nq (wcc c u (fun o d=>?_) (fun o d=>?_))))))))
 ·refine sr (lv (r_f u) (nq (rr ?_)))
  cases oi d
  exact ey results213 ⟨K,u,a.s⟩
 refine wc_skip (qr (lv (r_t u) (nq (wc_ret ?_))))
 cases oi d
 exact ey results213 ⟨K,u,a.s⟩

theorem ok_laws_eqAttrS {q0:List GAttr}{q1:List GAttr}{r:Bool}(hS:SH w K [] w K [])(k:SliceAt tGAttr K A a b q0)(x:SliceAt tGAttr K B c d q1)(hm:M.laws_eqAttrS F q0 q1=some r):
  Calls prog 159 #[V3 A a b,V3 B c d] w (R_b w K r):=by
 rw [M.laws_eqAttrS] at hm
 refine ci func159 u ntmps159 (sr (lv (r_f u) (nsr (mv u (lv (rv_len underlying75 u k) (mv u (lv (rv_len underlying75 u x) (lv (rv_neq u u) (nq ?_)))))))))
 refine wc_cond u (fun l=>?_) (fun l=>?_)
 ·have m:=cond_t l hm
  refine sr (lv (r_f u) (nq (rr ?_)))
  cases oi m
  exact ey results159 ⟨K,u,hS⟩
 have m:=cond_f l hm
 refine wc_skip (qs (sr (lv (r_0 u) (nq ?_))))
 obtain⟨O,R,i⟩:=ob m
 refine wc_cutg (IE O w K [] K [] []) ?_ ?_
 ·refine wc_block ?_
  obtain⟨az,S,y⟩:=ob R
  refine qw (fun (o:Int)=>IW w K [] K [(0,V3 A a b),(1,V3 B c d),(5,V6 o)] [] (rng64 o)) S ⟨K,u,hS,kr,d_0⟩ ?_
  rintro o _ aA aB T C ⟨U,rfl,D,f,aC⟩
  refine wc_seq (sr (mv u (mv u (lv (rv_len underlying75 u (k.mono f)) (lv (rv_lss u u) (nq (wcc T u (fun V q=>?_) (fun V q=>?_))))))))
  ·refine wc_skip (qs (wc_block (wc_seq (wc_quiet mixed (by kernel_rfl) D (km u (km u ?_))))))
   obtain⟨G,W,X⟩:=ob q
   refine ki underlying75 tf142 (k.mono f) W fun Y aa aD ab ac=>?_
   obtain⟨rfl,ad,ae⟩:=ab
   have af:AtK _ Y aa [sv G.Name,V6 G.Num]:=ac
   refine kh (rq_loadS tf142 u af u) (km u (km u ?_))
   obtain⟨H,ag,ah⟩:=ob X
   refine ki underlying75 tf142 (x.mono f) ag fun ai aj aE ak al=>?_
   obtain⟨rfl,am,an⟩:=ak
   have ao:AtK _ ai aj [sv H.Name,V6 H.Num]:=al
   refine kh (rq_loadS tf142 u ao u) ?_
   obtain⟨aF,ap,aq⟩:=ob ah
   refine kc co213 (fun _ _ ar aG=>(ok_laws_eqAttr F) ar.enter0 ad ae am an ap) (kv (rv_not u) (wq_nil ?_))
   rintro aH ⟨I,J,au⟩
   refine qe_seq (wcc aq u (fun aw s=>?_) (fun aw s=>?_))
   ·refine sr (lv (r_f u) (nq (wc_ret (qe_block_ret (qe_then_ret (qe_then_ret ?_))))))
    cases oi s
    cases C _ u
    refine qe_block_ret (qe_then_ret ?_)
    cases oi y
    refine qe_then_ret ?_
    cases oi i
    exact ey results159 ⟨I,u,J⟩
   refine wc_skip (qe_block (qe_seq (wc_region (mv u (lv (rv_add u u) (av u (wl_nil ?_)))))))
   cases oi s
   exact qd ⟨_,u,I,u,J,(f.trans au),(w64_rng _)⟩
  refine wc_exit (qe_then_exit (qe_then_exit ?_))
  cases oi q
  cases C _ u
  refine qe_block_eq ?_
  cases oi y
  exact qe_mid' ⟨_,U,u,u,D,f⟩ trivial
 rintro _ aI ⟨aJ,ax,rfl,rfl,ay,aK⟩
 have i:=elim_l i
 refine qr (lv (r_t u) (nq (wc_ret ?_)))
 cases oi i
 exact ey results159 ⟨ax,u,ay⟩

theorem ok_laws_eqDoc {q0:GDoc}{q1:GDoc}{r:Bool}(hS:SH w K [] w K [])(ah:rng64 q0.Id)(J:SliceAt tGField K A a b q0.Fields)(O:SliceAt tGAttr K B c d q0.Nums)(ai:rng64 q1.Id)(R:SliceAt tGField K C f i q1.Fields)(S:SliceAt tGAttr K D k l q1.Nums)(hm:M.laws_eqDoc F q0 q1=some r):
  Calls prog 82 #[.agg #[V6 q0.Id,V3 A a b,V3 B c d],.agg #[V6 q1.Id,V3 C f i,V3 D k l]] w (R_b w K r):=by
 rw [M.laws_eqDoc] at hm
 refine ci func82 u ntmps82 (sr (bx u hS fun T aj U=>?_))
 have V:SH _ _ _ _ _ [obj T [V6 q0.Id,V3 A a b,V3 B c d] 77]:=U
 refine bx u V fun W ak X=>?_
 have m:SH _ _ _ _ _ [obj W [V6 q1.Id,V3 C f i,V3 D k l] 77,_]:=X
 refine lv (r_f u) (nsr (fl ff77_0 u tf3 m1 m u (fl ff77_0 u tf3 m0 m u (lv (rv_neq u u) (nq (wc_cond u (fun q=>?_) (fun q=>?_)))))))
 ·have s:=cond_t q hm
  refine sr (lv (r_f u) (nq (rr ?_)))
  cases oi s
  exact ey results82 ⟨K,u,m.s⟩
 have s:=cond_f q hm
 refine wc_skip (qs (sr (fl ff77_1 u tf74 m1 m u (fl ff77_1 u tf74 m0 m u ?_))))
 obtain⟨al,Y,aa⟩:=ob s
 refine lk co158 (ok_laws_eqFieldS F m.enter0 J R Y) ?_
 rintro am an ⟨ab,rfl,x⟩
 have o:=(m.c0 x).t2
 refine lv (rv_not u) (nq (wcc aa u (fun ac y=>?_) (fun ac y=>?_)))
 ·refine sr (lv (r_f u) (nq (rr ?_)))
  cases oi y
  exact ey results82 ⟨ab,u,o.s⟩
 refine wc_skip (qs (sr (fl ff77_2 u tf75 m1 o u (fl ff77_2 u tf75 m0 o u ?_))))
 obtain⟨ao,ad,ae⟩:=ob y
 refine lk co159 (ok_laws_eqAttrS F o.enter0 (O.mono x.le) (S.mono x.le) ad) ?_
 rintro ap aq ⟨H,rfl,af⟩
 have I:=(o.c0 af).t2
 refine lv (rv_not u) (nq (wcc ae u (fun ag G=>?_) (fun ag G=>?_)))
 ·refine sr (lv (r_f u) (nq (rr ?_)))
  cases oi G
  exact ey results82 ⟨H,u,I.s⟩
 refine wc_skip (qr (lv (r_t u) (nq (wc_ret ?_))))
 cases oi G
 exact ey results82 ⟨H,u,I.s⟩

theorem ok_laws_eqDocS {q0:List GDoc}{q1:List GDoc}{r:Bool}(hS:SH w K [] w K [])(l:SliceAt tGDoc K A a b q0)(y:SliceAt tGDoc K B c d q1)(hm:M.laws_eqDocS F q0 q1=some r):
  Calls prog 24 #[V3 A a b,V3 B c d] w (R_b w K r):=by
 rw [M.laws_eqDocS] at hm
 refine ci func24 u ntmps24 (sr (lv (r_f u) (nsr (mv u (lv (rv_len underlying43 u l) (mv u (lv (rv_len underlying43 u y) (lv (rv_neq u u) (nq ?_)))))))))
 refine wc_cond u (fun m=>?_) (fun m=>?_)
 ·have o:=cond_t m hm
  refine sr (lv (r_f u) (nq (rr ?_)))
  cases oi o
  exact ey results24 ⟨K,u,hS⟩
 have o:=cond_f m hm
 refine wc_skip (qs (sr (lv (r_0 u) (nq ?_))))
 obtain⟨J,O,i⟩:=ob o
 refine wc_cutg (IE J w K [] K [] []) ?_ ?_
 ·refine wc_block ?_
  obtain⟨aO,R,C⟩:=ob O
  refine qw (fun (q:Int)=>IW w K [] K [(0,V3 A a b),(1,V3 B c d),(5,V6 q)] [] (rng64 q)) R ⟨K,u,hS,kr,d_0⟩ ?_
  rintro q _ aP aQ S D ⟨T,rfl,G,f,aR⟩
  refine wc_seq (sr (mv u (mv u (lv (rv_len underlying43 u (l.mono f)) (lv (rv_lss u u) (nq (wcc S u (fun U s=>?_) (fun U s=>?_))))))))
  ·refine wc_skip (qs (wc_block (wc_seq (wc_quiet mixed (by kernel_rfl) G (km u (km u ?_))))))
   obtain⟨V,W,X⟩:=ob s
   refine ki underlying43 tf77 (l.mono f) W fun Y aa aS ab ac=>?_
   obtain⟨ad,ae,af,ag,ah,ai,rfl,aj,ak,al⟩:=ab
   have am:AtK _ Y aa [V6 V.Id,V3 ad ae af,V3 ag ah ai]:=ac
   refine kh (rq_loadS tf77 u am u) (km u (km u ?_))
   obtain⟨an,ao,ap⟩:=ob X
   refine ki underlying43 tf77 (y.mono f) ao fun aq ar aT au aw=>?_
   obtain⟨ax,ay,az,aA,aB,aC,rfl,aD,aE,aF⟩:=au
   have aG:AtK _ aq ar [V6 an.Id,V3 ax ay az,V3 aA aB aC]:=aw
   refine kh (rq_loadS tf77 u aG u) ?_
   obtain⟨aU,aH,aI⟩:=ob ap
   refine kc co82 (fun _ _ aJ k=>(ok_laws_eqDoc F) aJ.enter0 aj (ak.mono k) (al.mono k) aD (aE.mono k) (aF.mono k) aH) (kv (rv_not u) (wq_nil ?_))
   rintro aV ⟨H,I,aK⟩
   refine qe_seq (wcc aI u (fun aL x=>?_) (fun aL x=>?_))
   ·refine sr (lv (r_f u) (nq (wc_ret (qe_block_ret (qe_then_ret (qe_then_ret ?_))))))
    cases oi x
    cases D _ u
    refine qe_block_ret (qe_then_ret ?_)
    cases oi C
    refine qe_then_ret ?_
    cases oi i
    exact ey results24 ⟨H,u,I⟩
   refine wc_skip (qe_block (qe_seq (wc_region (mv u (lv (rv_add u u) (av u (wl_nil ?_)))))))
   cases oi x
   exact qd ⟨_,u,H,u,I,(f.trans aK),(w64_rng _)⟩
  refine wc_exit (qe_then_exit (qe_then_exit ?_))
  cases oi s
  cases D _ u
  refine qe_block_eq ?_
  cases oi C
  exact qe_mid' ⟨_,T,u,u,G,f⟩ trivial
 rintro _ aW ⟨aX,aM,rfl,rfl,aN,aY⟩
 have i:=elim_l i
 refine qr (lv (r_t u) (nq (wc_ret ?_)))
 cases oi i
 exact ey results24 ⟨aM,u,aN⟩
end Go.Proofs.YtpjefkdclnmlfaaGreat
