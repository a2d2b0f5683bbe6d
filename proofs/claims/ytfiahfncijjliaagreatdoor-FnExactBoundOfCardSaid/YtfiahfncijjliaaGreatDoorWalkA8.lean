/-
 Walks of the functions. Printed by gen.py.
-/
import Derived.Test.YtfiahfncijjliaaGreatDoorWalkA0
import Derived.Test.YtfiahfncijjliaaGreatDoorWalkA1
import Derived.Test.YtfiahfncijjliaaGreatDoorWalkA2
import Derived.Test.YtfiahfncijjliaaGreatDoorWalkA3
import Derived.Test.YtfiahfncijjliaaGreatDoorWalkA4
import Derived.Test.YtfiahfncijjliaaGreatDoorWalkA5
import Derived.Test.YtfiahfncijjliaaGreatDoorWalkA6
import Derived.Test.YtfiahfncijjliaaGreatDoorWalkA7
set_option linter.unusedVariables false
set_option linter.unusedSectionVars false
set_option maxRecDepth 100000
namespace Go.Proofs.YtfiahfncijjliaaGreatDoor
set_option maxHeartbeats 4000000
open Go Go.Fk Go.RowKit Tryz
variable (F:Nat){w:World}{K:KMap}{Z:List Nat}{g1 g2 g3:Nat}{A B C D G H I J O R S T:Option Addr}{a b c d f i k l m n o p q s v x y aa ab ac ad ae af ag:Nat}
variable [dr:Dr]

theorem ok_spec_l7Ok {q0:GConf}{q1:GSeg}{r:Bool}(hS:SH w K [] w K [])(ad:SliceAt tStr K A a b q0.Stops)(ae:SliceAt tGSyn K B c d q0.Syns)(af:SliceAt tGDoc K C f i q1.Docs)(ag:SliceAt tGEntry K D k l q1.Entries)(hm:M.spec_l7Ok F q0 q1=some r):
  Calls prog 30 #[.agg #[V3 A a b,V3 B c d],.agg #[V3 C f i,V3 D k l]] w (R_b w K r):=by
 rw [M.spec_l7Ok] at hm
 refine ci func30 u ntmps30 (sr (bx u hS fun O bO aA=>?_))
 have aB:SH _ _ _ _ _ [obj O [V3 A a b,V3 B c d] 36]:=aA
 refine bx u aB fun o bP aC=>?_
 have R:SH _ _ _ _ _ [obj o [V3 C f i,V3 D k l] 41,_]:=aC
 refine lv (r_f u) (ns (wc_seq ?_))
 obtain⟨aD,aE,aF⟩:=ob hm
 refine wc_cutg (IV w K [] K [(2,pt O),(3,pt o),(15,.bool aD)] [obj O [V3 A a b,V3 B c d] 36,obj o [V3 C f i,V3 D k l] 41]) ?_ ?_
 ·refine wc_region (lv (rv_loadmS (ds:=[V3 A a b,V3 B c d]) tf36 u m1 R u u) ?_)
  obtain⟨bQ,aG,aH⟩:=ob aE
  refine lk co62 (ok_spec_l2Ok F R.enter0 ad ae aG) ?_
  rintro bR bS ⟨aI,rfl,y⟩
  have G:=(R.c0 y).t2
  refine lv (rv_not u) (mv u (bt aH (fun m S=>?_) (fun m S=>?_)))
  ·refine lu m (lu m (lu m (lu m (lv (p_t u m u) (wl_nil ?_)))))
   cases oi S
   exact qd ⟨aI,u,G.f1,y.le⟩
  refine lg m (rv_fieldAddr ff41_0 u) (lg m (rv_loadm1 tf38 u m0 G u) ?_)
  obtain⟨bT,aJ,aK⟩:=ob S
  refine wl_call (wg u u m) u (rt_call (vs:=[V3 C f i]) co63 u) (ok_spec_l6Docs F G.enter0 (af.mono y.le) aJ) ?_
  rintro bU bV ⟨aL,rfl,ah⟩
  refine⟨_,u,?_⟩
  have aM:=(G.c0 ah).t2
  refine lg m (rv_not u) (lv (rv_pick_f u m u) (wl_nil ?_))
  cases oi aK
  exact qd ⟨aL,u,aM.f1,(y.le.trans ah.le)⟩
 rintro _ bW ⟨aN,rfl,q,s⟩
 refine qe_seq (wcc aF u (fun aO T=>?_) (fun aO T=>?_))
 ·refine sr (lv (r_f u) (nq (rr ?_)))
  cases oi T
  exact ey results30 ⟨aN,u,q.s⟩
 refine wc_skip (qr (lv (rv_loadmS (ds:=[V3 A a b,V3 B c d]) tf36 u m0 q u u) (fl ff41_0 u tf38 m1 q u ?_)))
 obtain⟨bX,aP,aQ⟩:=ob T
 refine lk co64 (ok_spec_l7Of F q.enter0 (ad.mono s) (ae.mono s) (af.mono s) aP) ?_
 rintro bY bZ ⟨ai,aj,ak,am,an,ao,cs68,ca,rfl,U,cb,hrow69,hm70⟩
 have aR:=(q.c0 U).t4
 obtain⟨H,ap,V,aS⟩:=SH.freezeI aR.f1 hrow69 hm70
 refine al tf41 aS fun W cc aT=>?_
 have aU:SH _ _ _ _ _ [obj W [V3 none 0 0,V3 none 0 0] 41,_,_,_,_]:=aT
 refine lw [V3 ai aj ak,V3 am an ao] tf41 aU fun cd I=>(nsr (fl ff41_1 u tf39 m0 I u (lv (rv_len underlying39 u V) (fl ff41_1 u tf39 m4 I u (lv (rv_len underlying39 u (ag.mono ((s.trans U.le).trans ap))) (lv (rv_neq u u) (nq (wcc aQ u (fun aV X=>?_) (fun aV X=>?_)))))))))
 ·refine sr (lv (r_f u) (nq (rr ?_)))
  cases oi X
  exact ey results30 ⟨H,u,I.s⟩
 refine wc_skip (qs (sr (lv (r_0 u) (nq ?_))))
 obtain⟨aW,aX,J⟩:=ob X
 refine wc_cutg (IE aW w K [] H [] []) ?_ ?_
 ·refine wc_block ?_
  obtain⟨ce,aY,aq⟩:=ob aX
  have aZ:=I.f4.sb (sk (sk (sd (sd (sd sz)))))
  refine qw (fun (Y:Int)=>IW w K [] H [(3,pt o),(5,pt W),(6,V6 Y)] [obj o [V3 C f i,V3 D k l] 41,obj W [V3 ai aj ak,V3 am an ao] 41] (rng64 Y)) aY ⟨H,u,aZ,kr,d_0⟩ ?_
  rintro Y _ cf cg ba ar ⟨bb,rfl,aa,x,ch⟩
  refine wc_seq (sr (mv u (fl ff41_1 u tf39 m1 aa u (lv (rv_len underlying39 u (V.mono x)) (lv (rv_lss u u) (nq (wcc ba u (fun bc ab=>?_) (fun bc ab=>?_))))))))
  ·refine wc_skip (qs (wc_block (wc_seq (wc_quiet mixed (by kernel_rfl) aa (kv (rv_fieldAddr ff41_1 u) (kh (rq_loadm1 tf39 u m1 u) (km u ?_)))))))
   obtain⟨au,bd,be⟩:=ob ab
   refine ki underlying39 tf114 (V.mono x) bd fun bf bg cj bh bi=>?_
   obtain⟨bj,bk,bl,rfl,bm,bn,bo⟩:=bh
   have bp:AtK _ bf bg [sv au.Field,sv au.Term,V3 bj bk bl]:=bi
   refine kh (rq_loadS tf114 u bp u) (kv (rv_fieldAddr ff41_1 u) (kh (rq_loadm1 tf39 u m0 u) (km u ?_)))
   obtain⟨aw,bq,br⟩:=ob be
   refine ki underlying39 tf114 (SliceAt.mono (((s.trans U.le).trans ap).trans x) ag) bq fun bs bu ck bv bz=>?_
   obtain⟨bA,bB,bC,rfl,bD,bE,bF⟩:=bv
   have bG:AtK _ bs bu [sv aw.Field,sv aw.Term,V3 bA bB bC]:=bz
   refine kh (rq_loadS tf114 u bG u) ?_
   obtain⟨cl,bH,bI⟩:=ob br
   refine kc co65 (fun _ _ bJ ax=>(ok_spec_l7SameEntry F) bJ.enter0 bm bn (bo.mono ax) bD bE (bF.mono ax) bH) (kv (rv_not u) (wq_nil ?_))
   rintro cm ⟨ay,az,bK⟩
   refine qe_seq (wcc bI u (fun bL ac=>?_) (fun bL ac=>?_))
   ·refine sr (lv (r_f u) (nq (wc_ret (qe_block_ret (qe_then_ret (qe_then_ret ?_))))))
    cases oi ac
    cases ar _ u
    refine qe_block_ret (qe_then_ret ?_)
    cases oi aq
    refine qe_then_ret ?_
    cases oi J
    exact ey results30 ⟨ay,u,az.s⟩
   refine wc_skip (qe_block (qe_seq (wc_region (mv u (lv (rv_add u u) (av u (wl_nil ?_)))))))
   cases oi ac
   exact qd ⟨_,u,ay,u,az,(x.trans bK),(w64_rng _)⟩
  refine wc_exit (qe_then_exit (qe_then_exit ?_))
  cases oi ab
  cases ar _ u
  refine qe_block_eq ?_
  cases oi aq
  exact qe_mid' ⟨_,bb,u,u,aa.s,x⟩ trivial
 rintro _ cn ⟨cp,bM,rfl,rfl,bN,cq⟩
 have J:=elim_l J
 refine qr (lv (r_t u) (nq (wc_ret ?_)))
 cases oi J
 exact ey results30 ⟨bM,u,bN⟩

theorem ok_spec_BoundOf {q0:GConf}{q1:GSeg}{q2:Str}{q3:Str}{r:(List GBlock)}(hS:SH w K [] w K [])(G:SliceAt tStr K A a b q0.Stops)(H:SliceAt tGSyn K B c d q0.Syns)(x:SliceAt tGDoc K C f i q1.Docs)(y:SliceAt tGEntry K D k l q1.Entries)(I:q2.length≤maxLen)(J:q3.length≤maxLen)(hm:M.spec_BoundOf F q0 q1 q2 q3=some r):
  Calls prog 7 #[.agg #[V3 A a b,V3 B c d],.agg #[V3 C f i,V3 D k l],sv q2,sv q3] w fun e w'=>∃a_1 n_2 c_3 K',e= .returned (V3 a_1 n_2 c_3)∧SH w K [] w' K' [tail (V3 a_1 n_2 c_3) 73 2]∧SliceAt tGBlock K' a_1 n_2 c_3 r:=by
 rw [M.spec_BoundOf] at hm
 refine ci func7 u ntmps7 (sr (bx u hS fun O ak R=>?_))
 have S:SH _ _ _ _ _ [obj O [V3 A a b,V3 B c d] 36]:=R
 refine bx u S fun T al U=>?_
 have m:SH _ _ _ _ _ [obj T [V3 C f i,V3 D k l] 41,_]:=U
 refine lv (r_n u) (nsr (lv (rv_loadmS (ds:=[V3 A a b,V3 B c d]) tf36 u m1 m u u) (lv (rv_loadmS (ds:=[V3 C f i,V3 D k l]) tf41 u m0 m u u) ?_)))
 obtain⟨am,V,W⟩:=ob hm
 refine lk co30 (ok_spec_l7Ok F m.enter0 G H x y V) ?_
 rintro an ao ⟨X,rfl,q⟩
 have o:=(m.c0 q).t2
 refine lv (rv_not u) (nq (wcc W u (fun Y s=>?_) (fun Y s=>?_)))
 ·refine sr (lv (r_n u) (nq (rr ?_)))
  cases oi s
  have aa:=o.nil 73 2
  exact ey results7 ⟨none,0,0,X,u,aa.s,(SliceAt.nil _ _)⟩
 refine wc_skip (qr (lv (rv_loadmS (ds:=[V3 C f i,V3 D k l]) tf41 u m0 o u u) (mv u (mv u ?_))))
 obtain⟨ap,ab,ac⟩:=ob s
 refine lk co31 (ok_spec_l14Blocks F o.enter0 (x.mono q.le) (y.mono q.le) I J ab) ?_
 rintro aq ar ⟨ad,ae,af,ag,rfl,ah,ai⟩
 have aj:=(o.c0 ah).t3
 refine av u (nq (wc_ret ?_))
 cases oi ac
 exact ey results7 ⟨ad,ae,af,ag,u,aj.s,ai⟩

theorem ok_impl_BoundOf {q0:GConf}{q1:GSeg}{q2:Str}{q3:Str}{r:(List GBlock)}(hS:SH w K [] w K [])(x:SliceAt tStr K A a b q0.Stops)(y:SliceAt tGSyn K B c d q0.Syns)(G:SliceAt tGDoc K C f i q1.Docs)(H:SliceAt tGEntry K D k l q1.Entries)(J:q2.length≤maxLen)(O:q3.length≤maxLen)(hm:M.impl_BoundOf F q0 q1 q2 q3=some r):
  Calls prog 10 #[.agg #[V3 A a b,V3 B c d],.agg #[V3 C f i,V3 D k l],sv q2,sv q3] w fun e w'=>∃a_1 n_2 c_3 K',e= .returned (V3 a_1 n_2 c_3)∧SH w K [] w' K' [tail (V3 a_1 n_2 c_3) 73 2]∧SliceAt tGBlock K' a_1 n_2 c_3 r:=by
 rw [M.impl_BoundOf] at hm
 refine ci func10 u ntmps10 (sr (bx u hS fun R ap S=>?_))
 have T:SH _ _ _ _ _ [obj R [V3 A a b,V3 B c d] 36]:=S
 refine bx u T fun U aq V=>?_
 have o:SH _ _ _ _ _ [obj U [V3 C f i,V3 D k l] 41,_]:=V
 refine lv (r_n u) (nsr (lv (rv_loadmS (ds:=[V3 A a b,V3 B c d]) tf36 u m1 o u u) (lv (rv_loadmS (ds:=[V3 C f i,V3 D k l]) tf41 u m0 o u u) ?_)))
 obtain⟨ar,W,X⟩:=ob hm
 refine lk co35 (ok_impl_SegOk F o.enter0 x y G H W) ?_
 rintro au aw ⟨ax,rfl,m⟩
 have q:=(o.c0 m).t2
 refine lv (rv_not u) (nq (wcc X u (fun Y s=>?_) (fun Y s=>?_)))
 ·refine sr (b0 tGBlock underlying32 tf73 q fun aa ay ab az ac ad=>(av u (nq (rr ?_))))
  cases oi s
  exact ey results10 ⟨aa,0,0,ab,u,ad.s,ac⟩
 refine wc_skip (qr (lv (rv_loadmS (ds:=[V3 A a b,V3 B c d]) tf36 u m1 q u u) (lv (rv_loadmS (ds:=[V3 C f i,V3 D k l]) tf41 u m0 q u u) (lv (rv_build (cs:=#[V3 A a b,V3 B c d,V3 C f i,V3 D k l]) sp69 tf69 u (by kernel_rfl)) (bx u q fun ae aA af=>?_)))))
 have I:SH _ _ _ _ _ [obj ae [V3 A a b,V3 B c d,V3 C f i,V3 D k l] 69,_,_]:=af
 refine av u (nr (mv u (mv u (mv u ?_))))
 obtain⟨aB,ag,ah⟩:=ob s
 refine lk co36 ((ok_impl_scorer_bounds F (q0:=(GScorer.mk q0 q1))) I.e1 (x.mono m.le) (y.mono m.le) (G.mono m.le) (H.mono m.le) J O ag) ?_
 rintro aC aD ⟨ai,aj,ak,al,rfl,am,an⟩
 have ao:=(I.c1 am).t4
 refine av u (nq (wc_ret ?_))
 cases oi ah
 exact ey results10 ⟨ai,aj,ak,al,u,ao.s,an⟩

theorem ok_laws_FnExactBoundOf {q0:GConf}{q1:GSeg}{q2:Str}{q3:Str}{r:Bool}(hS:SH w K [] w K [])(am:SliceAt tStr K A a b q0.Stops)(an:SliceAt tGSyn K B c d q0.Syns)(ao:SliceAt tGDoc K C f i q1.Docs)(ap:SliceAt tGEntry K D k l q1.Entries)(aU:q2.length≤maxLen)(aV:q3.length≤maxLen)(hm:M.laws_FnExactBoundOf F q0 q1 q2 q3=some r):
  Calls prog 3 #[.agg #[V3 A a b,V3 B c d],.agg #[V3 C f i,V3 D k l],sv q2,sv q3] w (R_b w K r):=by
 rw [M.laws_FnExactBoundOf] at hm
 refine ci func3 u ntmps3 (sr (bx u hS fun ad et cn=>?_))
 have cp:SH _ _ _ _ _ [obj ad [V3 A a b,V3 B c d] 25]:=cn
 refine bx u cp fun ae eu cq=>?_
 have aq:SH _ _ _ _ _ [obj ae [V3 C f i,V3 D k l] 29,_]:=cq
 refine lv (r_f u) (nsr (mv u (lv (rv_slen underlying9 u) (lv (rv_gtr u u) (nq (wc_cond u (fun aW=>?_) (fun aW=>?_)))))))
 ·have aX:=cond_t aW hm
  refine sr (lv (r_t u) (nq (rr ?_)))
  cases oi aX
  exact ey results3 ⟨K,u,aq.s⟩
 have aX:=cond_f aW hm
 refine wc_skip (qs (sr (mv u (lv (rv_slen underlying9 u) (lv (rv_gtr u u) (nq (wcc aX u (fun cr aY=>?_) (fun cr aY=>?_))))))))
 ·refine sr (lv (r_t u) (nq (rr ?_)))
  cases oi aY
  exact ey results3 ⟨K,u,aq.s⟩
 refine wc_skip (qr (lv (rv_assign (v:=V6 1048576) u) (nr (lv (rv_loadmS (ds:=[V3 A a b,V3 B c d]) tf25 u m1 aq u u) (mv u ?_)))))
 obtain⟨ev,cs,ct⟩:=ob aY
 refine lk co5 (ok_laws_szConf F aq.enter0 am an (by decide :rng64 1048576) cs) ?_
 rintro ew ex ⟨cu,rfl,G,cv⟩
 have aS:=(aq.c0 G).t2
 refine av u (nsr (mv u (lv (rv_lss u u) (nq (wcc ct u (fun cw aZ=>?_) (fun cw aZ=>?_))))))
 ·refine sr (lv (r_t u) (nq (rr ?_)))
  cases oi aZ
  exact ey results3 ⟨cu,u,aS.s⟩
 refine wc_skip (qr (lv (rv_loadmS (ds:=[V3 C f i,V3 D k l]) tf29 u m0 aS u u) (mv u ?_)))
 obtain⟨eA,cx,cy⟩:=ob aZ
 refine lk co6 (ok_laws_szSeg F aS.enter0 (ao.mono G.le) (ap.mono G.le) cv cx) ?_
 rintro eB eC ⟨bD,rfl,R,eD⟩
 have bE:=(aS.c0 R).t2
 refine av u (nsr (mv u (lv (rv_lss u u) (nq (wcc cy u (fun cz ba=>?_) (fun cz ba=>?_))))))
 ·refine sr (lv (r_t u) (nq (rr ?_)))
  cases oi ba
  exact ey results3 ⟨bD,u,bE.s⟩
 refine wc_skip (qs (wc_held (fun w'=>Holds bD w'∧HasObj ad [V3 A a b,V3 B c d] w'∧HasObj ae [V3 C f i,V3 D k l] w') (fun w'=>True) 8 [] mixed ?_))
 have V:=bE.drew
 refine wg_val (i:=0) (listed':=L_ 8 0) (HasObj ad [V3 A a b,V3 B c d]) u (by kernel_rfl) (pk_then pk_body) (by kernel_rfl) u (by kernel_rfl) (by kernel_rfl) u (.inl fun _ h=>h.2.1) ⟨⟨V.hasK kr,V.hasObj m1,V.hasObj m0⟩,(fun _=>trivial),by decide⟩ wn u (fun _ h=>rh_loadmS (ds:=[V3 A a b,V3 B c d]) tf25 u u u h) (wg_val (i:=2) (listed':=#[true,false,true,false,false,false,false,false]) (HasObj ae [V3 C f i,V3 D k l]) u (by kernel_rfl) (pk_then pk_body) (by kernel_rfl) u (by kernel_rfl) (by kernel_rfl) u (.inl fun _ h=>h.2.2) ⟨⟨V.hasK kr,V.hasObj m1,V.hasObj m0⟩,(fun _=>trivial),by decide⟩ wn u (fun _ h=>rh_loadmS (ds:=[V3 C f i,V3 D k l]) tf29 u u u h) (wg_val (i:=4) (listed':=#[true,false,true,false,true,false,false,false]) (fun _=>True) u (by kernel_rfl) (pk_then pk_body) (by kernel_rfl) u (by kernel_rfl) (by kernel_rfl) u (.inl fun _ _=>trivial) ⟨⟨V.hasK kr,V.hasObj m1,V.hasObj m0⟩,(fun _=>trivial),by decide⟩ wn u (fun _ _=>(rv_move u)) ?_))
 refine wg_val (i:=5) (listed':=#[true,false,true,false,true,true,false,false]) (fun _=>True) u (by kernel_rfl) (pk_then pk_body) (by kernel_rfl) u (by kernel_rfl) (by kernel_rfl) u (.inl fun _ _=>trivial) ⟨⟨V.hasK kr,V.hasObj m1,V.hasObj m0⟩,(fun _=>trivial),by decide⟩ wn u (fun _ _=>(rv_move u)) (wg_one (i:=1) (by kernel_rfl) u ?_)
 obtain⟨eE,cA,cB⟩:=ob ba
 refine lk co8 ((bag_laws_toConf F) V.enter0 (am.mono (G.le.trans R.le)) (an.mono (G.le.trans R.le)) cA) ?_
 rintro eF eG ⟨eH,eI,eJ,eK,eL,eM,eN,B65,rfl,H,cC,cD⟩
 have cE:=cC.mono only_le
 have cF:=cD.mono only_le
 have ar:=(V.c0 H).t3
 refine wl_nil (qe_held (listed':=#[true,true,true,false,true,true,false,false]) u ⟨⟨ar.hasK H.le,ar.hasObj m2,ar.hasObj m1⟩,(fun _=>trivial),by decide⟩ (wg_one (i:=3) (by kernel_rfl) u ?_))
 obtain⟨eO,cG,cH⟩:=ob cB
 refine lk co9 ((bag_laws_toSeg F) ar.enter0 (ao.mono ((G.le.trans R.le).trans H.le)) (ap.mono ((G.le.trans R.le).trans H.le)) cG) ?_
 rintro eP eQ ⟨eR,eS,eT,eU,eV,eW,eX,B84,rfl,J,cI,cJ⟩
 have cK:=cI.mono only_le
 have cL:=cJ.mono only_le
 have au:=(ar.c0 J).t4
 refine wl_nil (qe_held (listed':=L_ 8 5) u ⟨⟨au.hasK (H.le.trans J.le),au.hasObj m3,au.hasObj m2⟩,(fun _=>trivial),by decide⟩ (wg_one (i:=6) (by kernel_rfl) u ?_))
 obtain⟨eY,cM,cN⟩:=ob cH
 refine lk co7 (ok_spec_BoundOf F au.enter0 (cE.mono J.le) (cF.mono J.le) cK cL aU aV cM) ?_
 rintro eZ fb ⟨bb,bc,bd,fc,rfl,T,be⟩
 have U:=(au.c0 T).t5
 refine wl_nil (qe_held (listed':=L_ 8 6) u ⟨⟨U.hasK ((H.le.trans J.le).trans T.le),U.hasObj m4,U.hasObj m3⟩,(fun _=>trivial),by decide⟩ (wg_val (i:=7) (listed':=L_ 8 7) (fun _=>True) u (by kernel_rfl) (pk_then pk_body) (by kernel_rfl) u (by kernel_rfl) (by kernel_rfl) u (.inl fun _ _=>trivial) ⟨⟨U.hasK ((H.le.trans J.le).trans T.le),U.hasObj m4,U.hasObj m3⟩,(fun _=>trivial),by decide⟩ wn u (fun _ _=>(rv_assign u)) (wg_done (by kernel_rfl) (qr (lv (rv_loadmS (ds:=[V3 A a b,V3 B c d]) tf25 u m4 U u u) ?_)))))
 obtain⟨fd,cO,cP⟩:=ob cN
 refine lk co8 ((bag_laws_toConf F) U.enter0 (SliceAt.mono ((((G.le.trans R.le).trans H.le).trans J.le).trans T.le) am) (SliceAt.mono ((((G.le.trans R.le).trans H.le).trans J.le).trans T.le) an) cO) ?_
 rintro fe fg ⟨aw,ax,ay,az,aA,aB,fh,B115,rfl,m,bF,bG⟩
 have bH:=bF.mono only_le
 have bI:=bG.mono only_le
 have cQ:=(U.c0 m).t6
 refine al tf36 cQ fun bJ fi cR=>?_
 have cS:SH _ _ _ _ _ [obj bJ [V3 none 0 0,V3 none 0 0] 36,_,_,_,_,_,_]:=cR
 refine lw [V3 aw ax ay,V3 az aA aB] tf36 cS fun fj Y=>(nr (lv (rv_loadmS (ds:=[V3 C f i,V3 D k l]) tf29 u m5 Y u u) ?_))
 obtain⟨fk,cT,cU⟩:=ob cP
 refine lk co9 ((bag_laws_toSeg F) Y.enter0 (SliceAt.mono (((((G.le.trans R.le).trans H.le).trans J.le).trans T.le).trans m.le) ao) (SliceAt.mono (((((G.le.trans R.le).trans H.le).trans J.le).trans T.le).trans m.le) ap) cT) ?_
 rintro fm fn ⟨aC,aD,aE,aF,aG,aH,fo,B140,rfl,q,bK,bL⟩
 have bM:=bK.mono only_le
 have bN:=bL.mono only_le
 have cV:=(Y.c0 q).t8
 refine al tf41 cV fun bO fp cW=>?_
 have cX:SH _ _ _ _ _ [obj bO [V3 none 0 0,V3 none 0 0] 41,_,_,_,_,_,_,_,_]:=cW
 refine lw [V3 aC aD aE,V3 aF aG aH] tf41 cX fun fq aa=>(nr (lv (rv_loadmS (ds:=[V3 aw ax ay,V3 az aA aB]) tf36 u m2 aa u u) (lv (rv_loadmS (ds:=[V3 aC aD aE,V3 aF aG aH]) tf41 u m0 aa u u) (mv u (mv u ?_)))))
 obtain⟨fr,cY,cZ⟩:=ob cU
 refine lk co10 (ok_impl_BoundOf F aa.enter0 (bH.mono q.le) (bI.mono q.le) bM bN aU aV cY) ?_
 rintro fs ft ⟨bf,bg,bh,fu,rfl,s,bP⟩
 have bQ:=(aa.c0 s).t10
 refine av u (nsr (mv u (mv u ?_)))
 obtain⟨fv,da,db⟩:=ob cZ
 refine lk co11 (ok_laws_eqBlockS F bQ.enter0 bP (be.mono ((m.le.trans q.le).trans s.le)) da) ?_
 rintro fw fx ⟨bR,rfl,x⟩
 have bS:=(bQ.c0 x).t10
 refine lv (rv_not u) (nq (wcc db u (fun dc bi=>?_) (fun dc bi=>?_)))
 ·refine sr (lv (r_f u) (nq (rr ?_)))
  cases oi bi
  exact ey results3 ⟨bR,u,bS.s⟩
 refine wc_skip (qs (wc_seq ?_))
 have aI:=bS.drew
 refine wh1 (fun w'=>Holds bR w'∧HasObj bJ [V3 aw ax ay,V3 az aA aB] w'∧HasObj ad [V3 A a b,V3 B c d] w') (fun w'=>True) 5 [] mixed ⟨aI.hasK kr,aI.hasObj m3,aI.hasObj m9⟩ (fun _=>trivial) (gh (fun _ h=>rh_loadmS (ds:=[V3 aw ax ay,V3 az aA aB]) tf36 u u u h.2.1) (gh (fun _ h=>rh_loadmS (ds:=[V3 A a b,V3 B c d]) tf25 u u u h.2.2) (gn ?_)))
 obtain⟨fy,dd,de⟩:=ob bi
 refine lk co8 ((bag_laws_toConf F) aI.enter0 (SliceAt.mono ((((((((G.le.trans R.le).trans H.le).trans J.le).trans T.le).trans m.le).trans q.le).trans s.le).trans x.le) am) (SliceAt.mono ((((((((G.le.trans R.le).trans H.le).trans J.le).trans T.le).trans m.le).trans q.le).trans s.le).trans x.le) an) dd) ?_
 rintro fz fA ⟨fB,fC,fD,fE,fF,fG,fH,B190,rfl,y,bT,bU⟩
 have df:=bT.mono only_le
 have dg:=bU.mono only_le
 have aJ:=(aI.c0 y).t11
 refine wl_nil (qh ⟨aJ.hasK y.le,aJ.hasObj m4,aJ.hasObj m10⟩ (fun _=>trivial) (gn ?_))
 obtain⟨fI,dh,di⟩:=ob de
 refine lk co12 (ok_laws_eqConf F aJ.enter0 (SliceAt.mono (((q.le.trans s.le).trans x.le).trans y.le) bH) (SliceAt.mono (((q.le.trans s.le).trans x.le).trans y.le) bI) df dg dh) ?_
 rintro fJ fK ⟨bV,rfl,I⟩
 have aK:=(aJ.c0 I).t11
 refine wl_nil (qh ⟨aK.hasK (y.le.trans I.le),aK.hasObj m4,aK.hasObj m10⟩ (fun _=>trivial) (gt (rv_not u) (gd' (qe_seq (wcc di u (fun dj bj=>?_) (fun dj bj=>?_))))))
 ·refine sr (lv (r_f u) (nq (rr ?_)))
  cases oi bj
  exact ey results3 ⟨bV,u,aK.s⟩
 refine wc_skip (qs (wc_seq ?_))
 have aL:=aK.drew
 refine wh1 (fun w'=>Holds bV w'∧HasObj bO [V3 aC aD aE,V3 aF aG aH] w'∧HasObj ae [V3 C f i,V3 D k l] w') (fun w'=>True) 5 [] mixed ⟨aL.hasK kr,aL.hasObj m2,aL.hasObj m9⟩ (fun _=>trivial) (gh (fun _ h=>rh_loadmS (ds:=[V3 aC aD aE,V3 aF aG aH]) tf41 u u u h.2.1) (gh (fun _ h=>rh_loadmS (ds:=[V3 C f i,V3 D k l]) tf29 u u u h.2.2) (gn ?_)))
 obtain⟨fL,dk,dl⟩:=ob bj
 refine lk co9 ((bag_laws_toSeg F) aL.enter0 (SliceAt.mono ((((((((((G.le.trans R.le).trans H.le).trans J.le).trans T.le).trans m.le).trans q.le).trans s.le).trans x.le).trans y.le).trans I.le) ao) (SliceAt.mono ((((((((((G.le.trans R.le).trans H.le).trans J.le).trans T.le).trans m.le).trans q.le).trans s.le).trans x.le).trans y.le).trans I.le) ap) dk) ?_
 rintro fM fN ⟨fO,fP,fQ,fR,fS,fT,fU,B222,rfl,O,bW,bX⟩
 have dm:=bW.mono only_le
 have dn:=bX.mono only_le
 have aM:=(aL.c0 O).t12
 refine wl_nil (qh ⟨aM.hasK O.le,aM.hasObj m3,aM.hasObj m10⟩ (fun _=>trivial) (gn ?_))
 obtain⟨fV,dp,dq⟩:=ob dl
 refine lk co13 (ok_laws_eqSeg F aM.enter0 (SliceAt.mono ((((s.le.trans x.le).trans y.le).trans I.le).trans O.le) bM) (SliceAt.mono ((((s.le.trans x.le).trans y.le).trans I.le).trans O.le) bN) dm dn dp) ?_
 rintro fW fX ⟨dr,rfl,S⟩
 have ah:=(aM.c0 S).t12
 refine wl_nil (qh ⟨ah.hasK (O.le.trans S.le),ah.hasObj m3,ah.hasObj m10⟩ (fun _=>trivial) (gt (rv_not u) (gd' (qe_seq (wcc dq u (fun dt bk=>?_) (fun dt bk=>?_))))))
 ·refine sr (lv (r_f u) (nq (rr ?_)))
  cases oi bk
  exact ey results3 ⟨dr,u,ah.s⟩
 refine wc_skip (qr (lv (rv_assign (v:=V6 1) u) (nr (lv (rv_loadmS (ds:=[V3 aw ax ay,V3 az aA aB]) tf36 u m5 ah u u) (mv u ?_)))))
 obtain⟨fY,du,dv⟩:=ob bk
 have bl:=ah.f6
 have hd250: ∀b∈B140,b∉B115:=SH.bag_off bl _ m4
 have bY:=SliceAt.mono (only_but2 hd250) (SliceAt.mono (only_mono (((((s.le.trans x.le).trans y.le).trans I.le).trans O.le).trans S.le) fun _ h=>h) bK)
 have fZ:=bY.mono only_le
 have hd253: ∀b∈B140,b∉B115:=SH.bag_off bl _ m4
 have bZ:=SliceAt.mono (only_but2 hd253) (SliceAt.mono (only_mono (((((s.le.trans x.le).trans y.le).trans I.le).trans O.le).trans S.le) fun _ h=>h) bL)
 have ga:=bZ.mono only_le
 have ai:=bl.f3.f1
 have dw:=SH.flat_but (t:=tGBlock) (fun h=>h) ai (SliceAt.mono ((((x.le.trans y.le).trans I.le).trans O.le).trans S.le) bP)
 have hd259: ∀b∈B190,b∉B115:=SH.bag_off ai _ m2
 have ca:=SliceAt.mono (only_but2 hd259) (SliceAt.mono (only_mono ((I.le.trans O.le).trans S.le) fun _ h=>h) bT)
 have gb:=ca.mono only_le
 have hd262: ∀b∈B190,b∉B115:=SH.bag_off ai _ m2
 have cb:=SliceAt.mono (only_but2 hd262) (SliceAt.mono (only_mono ((I.le.trans O.le).trans S.le) fun _ h=>h) bU)
 have gc:=cb.mono only_le
 have hd265: ∀b∈B222,b∉B115:=SH.bag_off ai _ m1
 have cc:=SliceAt.mono (only_but2 hd265) (bW.mono (only_mono S.le fun _ h=>h))
 have gd:=cc.mono only_le
 have hd268: ∀b∈B222,b∉B115:=SH.bag_off ai _ m1
 have cd:=SliceAt.mono (only_but2 hd268) (bX.mono (only_mono S.le fun _ h=>h))
 have ge:=cd.mono only_le
 have hM271:=SH.toMk hS.holds ai
 refine lk co14 (ok_laws_markConf F hM271.e1 (SliceAt.mono (only_mono ((((((q.le.trans s.le).trans x.le).trans y.le).trans I.le).trans O.le).trans S.le) fun _ h=>h) bF) (SliceAt.mono (only_mono ((((((q.le.trans s.le).trans x.le).trans y.le).trans I.le).trans O.le).trans S.le) fun _ h=>h) bG) (by decide :rng64 1) du) ?_
 rintro gg gj ⟨gk,rfl,W,dx⟩
 have ce:SH _ _ _ _ _ [_,_,_,_,_,_,_,_,_,_,_]:=SH.drop (SH.call (Lin:=[_]) hM271 W)
 refine av u (nr (lv (rv_loadmS (ds:=[V3 aC aD aE,V3 aF aG aH]) tf41 u m3 ce u u) (mv u ?_)))
 obtain⟨gl,dy,dz⟩:=ob dv
 have aj:=ce.f4.f1.f1
 have cf:=SH.flat_but (t:=tGBlock) (fun h=>h) aj (dw.mono W.le)
 have hd285: ∀b∈B190,b∉B140:=SH.bag_off aj _ m2
 have dA:=SliceAt.mono (only_but2 hd285) (ca.mono (only_mono W.le fun _ h=>h))
 have gm:=dA.mono only_le
 have hd288: ∀b∈B190,b∉B140:=SH.bag_off aj _ m2
 have dB:=SliceAt.mono (only_but2 hd288) (cb.mono (only_mono W.le fun _ h=>h))
 have go:=dB.mono only_le
 have hd291: ∀b∈B222,b∉B140:=SH.bag_off aj _ m1
 have dC:=SliceAt.mono (only_but2 hd291) (cc.mono (only_mono W.le fun _ h=>h))
 have gp:=dC.mono only_le
 have hd294: ∀b∈B222,b∉B140:=SH.bag_off aj _ m1
 have dD:=SliceAt.mono (only_but2 hd294) (cd.mono (only_mono W.le fun _ h=>h))
 have gq:=dD.mono only_le
 have hM297:=SH.toMk hS.holds aj
 refine lk co15 (ok_laws_markSeg F hM297.e1 (bY.mono (only_mono W.le fun _ h=>h)) (bZ.mono (only_mono W.le fun _ h=>h)) dx dy) ?_
 rintro gr gv ⟨cg,rfl,ab,gw⟩
 have bm:SH _ _ _ _ _ [_,_,_,_,_,_,_,_,_,_]:=SH.drop (SH.call (Lin:=[_]) hM297 ab)
 refine av u (ns (wc_seq ?_))
 obtain⟨dE,dF,dG⟩:=ob dz
 refine wc_cutg (IV w K [] cg [(2,sv q2),(3,sv q3),(4,pt ad),(5,pt ae),(10,V3 bb bc bd),(13,V3 bf bg bh),(77,.bool dE)] [obj ad [V3 A a b,V3 B c d] 25,obj ae [V3 C f i,V3 D k l] 29,tail (V3 bb bc bd) 73 2,tail (V3 bf bg bh) 73 2,bag B222,bag B190,bag B84,bag B65]) ?_ ?_
 ·refine wc_region (mv u (lv (rv_lss u u) (mv u (bt dF (fun X bn=>?_) (fun X bn=>?_)))))
  ·refine lu X (lu X (lu X (lu X (lv (p_t u X u) (wl_nil ?_)))))
   cases oi bn
   exact qd ⟨cg,u,bm.f7.f7.f4.f4.f4.f7.f8.f9.s,kr⟩
  refine lg X (rv_move u) (lg X (rv_move u) ?_)
  obtain⟨gx,dH,dI⟩:=ob bn
  refine wl_call (wg u u X) u (rt_call (vs:=[V3 bf bg bh,V3 bb bc bd]) co11 u) (ok_laws_eqBlockS F bm.enter0 (cf.mono ab.le) (SliceAt.mono ((le_but ((le_but (((((((m.le.trans q.le).trans s.le).trans x.le).trans y.le).trans I.le).trans O.le).trans S.le) U.holds fun b hb=>(m.bag_new b hb).1).trans W.le) (fun b o v e=>Y.holds b o v (m.le b o v e)) fun b hb=>(q.bag_new b hb).1).trans ab.le) be) dH) ?_
  rintro gy gz ⟨dJ,rfl,ch⟩
  refine⟨_,u,?_⟩
  have dK:=(bm.c0 ch).t10
  refine lg X (rv_not u) (lv (rv_pick_f u X u) (wl_nil ?_))
  cases oi dI
  exact qd ⟨dJ,u,dK.f7.f7.f4.f4.f4.f7.f8.f9.s,ch.le⟩
 rintro _ gA ⟨dL,rfl,cj,ak⟩
 refine qe_seq (wcc dG u (fun dM bo=>?_) (fun dM bo=>?_))
 ·refine sr (lv (r_f u) (nq (rr ?_)))
  cases oi bo
  exact ey results3 ⟨dL,u,cj.s⟩
 refine wc_skip (qr (lv (rv_assign (v:=V6 1) u) (nr (mv u (mv u ?_)))))
 obtain⟨gB,dN,dO⟩:=ob bo
 refine lk co16 ((xc_laws_markBlockS F) hS.holds cj.f3 (cf.mono (ab.le.trans ak)) (by decide :rng64 1) dN) ?_
 rintro gC gD ⟨gE,rfl,dP,ck,aN,gF⟩
 have cl:SH _ _ _ _ _ [_,_,_,_,_,_,_,_]:=dP
 refine av u (nr (lv (rv_assign (v:=V6 1) u) (nr (mv u (mv u ?_)))))
 obtain⟨gG,dQ,dR⟩:=ob dO
 refine lk co17 (ok_laws_heldBlockS F cl.enter0 ck (by decide :rng64 1) dQ) ?_
 rintro gH gI ⟨bp,rfl,af,gJ⟩
 have bq:=(cl.c0 af).t8
 refine av u (nsr (mv u (lv (rv_lss u u) (nq (wcc dR u (fun dS br=>?_) (fun dS br=>?_))))))
 ·refine sr (lv (r_f u) (nq (rr ?_)))
  cases oi br
  exact ey results3 ⟨bp,u,bq.s⟩
 refine wc_skip (qs (sr (mv u (mv u (lv (rv_neq u u) (nq (wcc br u (fun dT bs=>?_) (fun dT bs=>?_))))))))
 ·refine sr (lv (r_f u) (nq (rr ?_)))
  cases oi bs
  exact ey results3 ⟨bp,u,bq.s⟩
 refine wc_skip (qs ?_)
 have aO:=bq.drew
 refine j_0 (fun w'=>Holds bp w'∧HasObj ad [V3 A a b,V3 B c d] w'∧HasObj ae [V3 C f i,V3 D k l] w') 8 [] mixed ⟨aO.hasK kr,aO.hasObj m1,aO.hasObj m2⟩ (jh 0 u (fun _ h=>rh_loadmS (ds:=[V3 A a b,V3 B c d]) tf25 u u u h.2.1) (jh 2 u (fun _ h=>rh_loadmS (ds:=[V3 C f i,V3 D k l]) tf29 u u u h.2.2) (jv 4 u (rv_move u) (jv 5 u (rv_move u) (j1 1 u ?_)))))
 obtain⟨gK,dU,dV⟩:=ob bs
 refine lk co8 ((bag_laws_toConf F) aO.enter0 (SliceAt.mono (((((((G.le.trans R.le).trans H.le).trans J.le).trans T.le).trans (le_but (((le_but ((le_but (((((((m.le.trans q.le).trans s.le).trans x.le).trans y.le).trans I.le).trans O.le).trans S.le) U.holds fun b hb=>(m.bag_new b hb).1).trans W.le) (fun b o v e=>Y.holds b o v (m.le b o v e)) fun b hb=>(q.bag_new b hb).1).trans ab.le).trans ak) (fun b o v e=>aa.holds b o v ((m.le.trans q.le) b o v e)) (SH.tail_new s))).trans aN).trans af.le) am) (SliceAt.mono (((((((G.le.trans R.le).trans H.le).trans J.le).trans T.le).trans (le_but (((le_but ((le_but (((((((m.le.trans q.le).trans s.le).trans x.le).trans y.le).trans I.le).trans O.le).trans S.le) U.holds fun b hb=>(m.bag_new b hb).1).trans W.le) (fun b o v e=>Y.holds b o v (m.le b o v e)) fun b hb=>(q.bag_new b hb).1).trans ab.le).trans ak) (fun b o v e=>aa.holds b o v ((m.le.trans q.le) b o v e)) (SH.tail_new s))).trans aN).trans af.le) an) dU) ?_
 rintro gL gM ⟨gN,gO,gP,gQ,gR,gS,gT,B377,rfl,ac,dW,dX⟩
 have dY:=dW.mono only_le
 have dZ:=dX.mono only_le
 have aP:=(aO.c0 ac).t9
 refine j_o ⟨aP.hasK ac.le,aP.hasObj m2,aP.hasObj m3⟩ (j1 3 u ?_)
 obtain⟨gU,ea,eb⟩:=ob dV
 refine lk co9 ((bag_laws_toSeg F) aP.enter0 (SliceAt.mono ((((((((G.le.trans R.le).trans H.le).trans J.le).trans T.le).trans (le_but (((le_but ((le_but (((((((m.le.trans q.le).trans s.le).trans x.le).trans y.le).trans I.le).trans O.le).trans S.le) U.holds fun b hb=>(m.bag_new b hb).1).trans W.le) (fun b o v e=>Y.holds b o v (m.le b o v e)) fun b hb=>(q.bag_new b hb).1).trans ab.le).trans ak) (fun b o v e=>aa.holds b o v ((m.le.trans q.le) b o v e)) (SH.tail_new s))).trans aN).trans af.le).trans ac.le) ao) (SliceAt.mono ((((((((G.le.trans R.le).trans H.le).trans J.le).trans T.le).trans (le_but (((le_but ((le_but (((((((m.le.trans q.le).trans s.le).trans x.le).trans y.le).trans I.le).trans O.le).trans S.le) U.holds fun b hb=>(m.bag_new b hb).1).trans W.le) (fun b o v e=>Y.holds b o v (m.le b o v e)) fun b hb=>(q.bag_new b hb).1).trans ab.le).trans ak) (fun b o v e=>aa.holds b o v ((m.le.trans q.le) b o v e)) (SH.tail_new s))).trans aN).trans af.le).trans ac.le) ap) ea) ?_
 rintro gV gW ⟨gX,gY,gZ,hc,hd,he,hf,B396,rfl,ag,ec,ed⟩
 have ee:=ec.mono only_le
 have ef:=ed.mono only_le
 have aQ:=(aP.c0 ag).t10
 refine j_o ⟨aQ.hasK (ac.le.trans ag.le),aQ.hasObj m3,aQ.hasObj m4⟩ (j1 6 u ?_)
 obtain⟨hg,eg,eh⟩:=ob eb
 refine lk co10 (ok_impl_BoundOf F aQ.enter0 (dY.mono ag.le) (dZ.mono ag.le) ee ef aU aV eg) ?_
 rintro hh hi ⟨hj,hk,hn,ho,rfl,aT,ei⟩
 have aR:=(aQ.c0 aT).t11
 refine j_o ⟨aR.hasK ((ac.le.trans ag.le).trans aT.le),aR.hasObj m4,aR.hasObj m5⟩ (jv 7 u (rv_assign u) (jd (qs (sr (mv u (mv u ?_))))))
 obtain⟨hp,ej,ek⟩:=ob eh
 refine lk co11 (ok_laws_eqBlockS F aR.enter0 ei (SliceAt.mono ((((((le_but (((le_but ((le_but (((((((m.le.trans q.le).trans s.le).trans x.le).trans y.le).trans I.le).trans O.le).trans S.le) U.holds fun b hb=>(m.bag_new b hb).1).trans W.le) (fun b o v e=>Y.holds b o v (m.le b o v e)) fun b hb=>(q.bag_new b hb).1).trans ab.le).trans ak) (fun b o v e=>aa.holds b o v ((m.le.trans q.le) b o v e)) (SH.tail_new s)).trans aN).trans af.le).trans ac.le).trans ag.le).trans aT.le) be) ej) ?_
 rintro hq hr ⟨el,rfl,cm⟩
 have bu:=(aR.c0 cm).t11
 refine lv (rv_not u) (nq (wcc ek u (fun em bv=>?_) (fun em bv=>?_)))
 ·refine sr (lv (r_f u) (nq (rr ?_)))
  cases oi bv
  exact ey results3 ⟨el,u,bu.s⟩
 refine wc_skip (qr (lv (rv_assign (v:=V6 1) u) (nr (mv u (mv u ?_)))))
 obtain⟨ht,en,eo⟩:=ob bv
 refine lk co17 (ok_laws_heldBlockS F bu.enter0 (SliceAt.mono ((((af.le.trans ac.le).trans ag.le).trans aT.le).trans cm.le) ck) (by decide :rng64 1) en) ?_
 rintro hu hv ⟨bz,rfl,ep,hw⟩
 have bA:=(bu.c0 ep).t11
 refine av u (nsr (mv u (lv (rv_lss u u) (nq (wcc eo u (fun eq bB=>?_) (fun eq bB=>?_))))))
 ·refine sr (lv (r_f u) (nq (rr ?_)))
  cases oi bB
  exact ey results3 ⟨bz,u,bA.s⟩
 refine wc_skip (qs (sr (mv u (mv u (lv (rv_neq u u) (nq (wcc bB u (fun es bC=>?_) (fun es bC=>?_))))))))
 ·refine sr (lv (r_f u) (nq (rr ?_)))
  cases oi bC
  exact ey results3 ⟨bz,u,bA.s⟩
 refine wc_skip (qr (lv (r_t u) (nq (wc_ret ?_))))
 cases oi bC
 exact ey results3 ⟨bz,u,bA.s⟩
end Go.Proofs.YtfiahfncijjliaaGreatDoor
