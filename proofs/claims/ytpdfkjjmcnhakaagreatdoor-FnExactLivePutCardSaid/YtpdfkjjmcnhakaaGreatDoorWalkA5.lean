/-
 Walks of the functions. Printed by gen.py.
-/
import Derived.Test.YtpdfkjjmcnhakaaGreatDoorWalkA4
set_option linter.unusedVariables false
set_option linter.unusedSectionVars false
set_option maxRecDepth 100000
namespace Go.Proofs.YtpdfkjjmcnhakaaGreatDoor
set_option maxHeartbeats 4000000
open Go Go.Fk Go.RowKit Tryz
variable (F:Nat){w:World}{K:KMap}{Z:List Nat}{g1 g2 g3:Nat}{A B C D G H I J O R S T:Option Addr}{a b c d f i k l m n o p q s v x y aa ab ac ad ae af ag:Nat}
variable [dr:Dr]

theorem ok_slices_Contains_string {q0:List Str}{q1:Str}{r:Bool}(hS:SH w K [] w K [])(c:SliceAt tStr K A a b q0)(d:q1.length≤maxLen)(hm:M.slices_Contains_string F q0 q1=some r):
  Calls prog 85 #[V3 A a b,sv q1] w (R_b w K r):=by
 rw [M.slices_Contains_string] at hm
 refine ci func85 u ntmps85 (sr (lv (r_f u) (nr (mv u (mv u ?_)))))
 obtain⟨o,f,i⟩:=ob hm
 refine lk co132 (ok_slices_Index_string F hS.enter0 c d f) ?_
 rintro q s ⟨k,rfl,l,x⟩
 have m:=(hS.c0 l).t0
 refine lv (rv_geq u u) (av u (nq (wc_ret ?_)))
 cases oi i
 exact ey results85 ⟨k,u,m⟩

theorem ok_impl_ConfOk {q0:GConf}{r:Bool}(hS:SH w K [] w K [])(ae:SliceAt tStr K A a b q0.Stops)(U:SliceAt tGSyn K B c d q0.Syns)(hm:M.impl_ConfOk F q0=some r):
  Calls prog 43 #[.agg #[V3 A a b,V3 B c d]] w (R_b w K r):=by
 rw [M.impl_ConfOk] at hm
 refine ci func43 u ntmps43 (sr (bx u hS fun f cu aO=>?_))
 have x:SH _ _ _ _ _ [obj f [V3 A a b,V3 B c d] 38]:=aO
 refine lv (r_f u) (ns (wc_seq ?_))
 obtain⟨aP,aQ,aR⟩:=ob hm
 refine wc_cutg (IV w K [] K [(1,pt f),(22,.bool aP)] [obj f [V3 A a b,V3 B c d] 38]) ?_ ?_
 ·refine wc_region (fl ff38_0 u tf22 m0 x u (lv (rv_len underlying22 u ae) (lv (rv_gtr u u) (mv u (bt aQ (fun i af=>?_) (fun i af=>?_))))))
  ·refine lu i (lu i (lu i (lu i (lv (p_t u i u) (mv u (lu u (lu u (lu u (lu u ?_)))))))))
   refine lv (p_t u u u) (wl_nil ?_)
   cases oi af
   exact qd ⟨K,u,x,kr⟩
  refine lg i (rv_fieldAddr ff38_0 u) (lg i (rv_loadm1 tf22 u m0 x u) ?_)
  obtain⟨cv,aS,aT⟩:=ob af
  refine wl_call (wg u u i) u (rt_call (vs:=[V3 A a b]) co82 u) (ok_impl_wordsAscend F x.enter0 ae aS) ?_
  rintro cw cx ⟨aE,rfl,V⟩
  refine⟨_,u,?_⟩
  have ag:=(x.c0 V).t1
  refine lg i (rv_not u) (lv (rv_pick_f u i u) (mv u (bt aT (fun k ah=>?_) (fun k ah=>?_))))
  ·refine lu k (lu k (lu k (lu k (lv (p_t u k u) (wl_nil ?_)))))
   cases oi ah
   exact qd ⟨aE,u,ag,V.le⟩
  refine lg k (rv_fieldAddr ff38_1 u) (lg k (rv_loadm1 tf36 u m0 ag u) (lg k (rv_len underlying36 u (U.mono V.le)) (lg k (rv_gtr u u) (lv (rv_pick_f u k u) (wl_nil ?_)))))
  cases oi ah
  exact qd ⟨aE,u,ag,V.le⟩
 rintro _ cy ⟨W,rfl,ai,X⟩
 refine qe_seq (wcc aR u (fun aU aj=>?_) (fun aU aj=>?_))
 ·refine sr (lv (r_f u) (nq (rr ?_)))
  cases oi aj
  exact ey results43 ⟨W,u,ai.s⟩
 refine wc_skip (qs (sr (fl ff38_1 u tf36 m0 ai u (lv (rv_len underlying36 u (U.mono X)) (lv (r_m u) (nq ?_))))))
 obtain⟨aV,aW,y⟩:=ob aj
 refine wc_cutg (IE aV w K [] W [] []) ?_ ?_
 ·refine wc_block ?_
  obtain⟨cz,aX,ak⟩:=ob aW
  refine qf (fun (s:Nat) (aF:Unit)=>IV w K [] W [(1,pt f),(24,V3 B c d),(25,V6 (q0.Syns.length:Int)),(26,V6 ((s:Nat):Int))] [obj f [V3 A a b,V3 B c d] 38]) aX ⟨W,u,ai,kr⟩ ?_ ?_
  ·rintro s aF _ aY cA hi53 aZ aG ⟨am,rfl,Y,C⟩
   refine sr (lv (rv_lss u u) (ns (wc_cond_t u (decide_eq_true (by omega)) (wc_skip (qe_seq (wc_seq (wc_block (sr ?_))))))))
   obtain⟨D,ba,bb⟩:=ob aZ
   refine li underlying36 tf128 (U.mono (X.trans C)) ba fun bc bd cB be bf=>?_
   obtain⟨G,H,I,rfl,J,an⟩:=be
   have bg:AtK _ bc bd [V3 G H I,sv D.To]:=bf
   refine lv (rv_loadS tf128 u Y bg u) (al tf128 Y fun ao cC bh=>?_)
   have bi:SH _ _ _ _ _ [obj ao [V3 none 0 0,sv []] 128,_]:=bh
   refine lw [V3 G H I,sv D.To] tf128 bi fun cD aH=>(ns (wc_seq ?_))
   obtain⟨bj,bk,bl⟩:=ob bb
   refine wc_cutg (IV w K [] am [(1,pt f),(4,pt ao),(24,V3 B c d),(25,V6 (q0.Syns.length:Int)),(26,V6 ((s:Nat):Int)),(48,.bool bj)] [obj f [V3 A a b,V3 B c d] 38,obj ao [V3 G H I,sv D.To] 128]) ?_ ?_
   ·refine wc_quiet mixed (by kernel_rfl) aH (kv (rv_fieldAddr ff128_0 u) (kh (rq_loadm1 tf22 u m0 u) (kv (rv_len underlying22 u J) ?_)))
    obtain⟨cE,bm,bn⟩:=ob bk
    refine kc co83 (fun _ _ bo cF=>(ok_impl_within F) bo.enter0 J.rn (by decide :rng64 1) (by decide :rng64 3) bm) (kv (rv_not u) (km u (bt bn (fun l ap=>?_) (fun l ap=>?_))))
    ·refine kn l (kn l (kn l (kn l (kv (p_t u l u) (km u ?_)))))
     iterate 6 refine qv u u u u ?_
     refine kv (p_t u u u) (wq_nil ?_)
     rintro cG ⟨bp,bq,br⟩
     cases oi ap
     exact qd ⟨bp,u,bq.f1,br⟩
    refine kg l (rv_fieldAddr ff128_1 u) (kgh l (rq_loadm1 tf9 u m0 u) ?_)
    obtain⟨cH,bs,bu⟩:=ob ap
    refine kcg l co48 (fun _ _ bv cI=>(ok_impl_WordOk F) bv.enter0 an bs) (kg l (rv_not u) (kv (rv_pick_f u l u) (km u (bt bu (fun q aq=>?_) (fun q aq=>?_)))))
    ·iterate 6 refine kn q ?_
     refine kv (p_t u q u) (wq_nil ?_)
     rintro cJ ⟨bz,bA,bB⟩
     cases oi aq
     exact qd ⟨bz,u,bA.f1,bB⟩
    refine kg q (rv_fieldAddr ff128_1 u) (kgh q (rq_loadm1 tf9 u m0 u) ?_)
    obtain⟨cK,aI,bC⟩:=ob aq
    refine kdg q co84 (fun _ _ bD cL=>(ok_impl_StemOf F) bD.enter0 an aI) ?_
    obtain⟨_,_,_,⟨_,_,_,cM⟩,_⟩:=(ok_impl_StemOf F) aH.enter0 an aI []
    refine kg q (rv_fieldAddr ff128_1 u) (kgh q (rq_loadm1 tf9 u m0 u) (kg q (rv_sneq u u) (kv (rv_pick_f u q u) (wq_nil ?_))))
    rintro cN ⟨bE,bF,bG⟩
    cases oi bC
    exact qd ⟨bE,u,bF.f1,bG⟩
   rintro _ cO ⟨aa,rfl,ar,O⟩
   refine qe_seq (wcc bl u (fun bH au=>?_) (fun bH au=>?_))
   ·refine sr (lv (r_f u) (nq (rr (qe_block_ret (qe_then_ret (qe_then_ret ?_))))))
    cases oi au
    cases aG _ u
    refine qe_block_ret (qe_then_ret ?_)
    cases oi ak
    refine qe_then_ret ?_
    cases oi y
    exact ey results43 ⟨aa,u,ar.s⟩
   refine wc_skip (qr (fl ff128_0 u tf22 m1 ar u (lv (rv_len underlying22 u (J.mono O)) (lv (r_m u) (nq ?_)))))
   obtain⟨bI,bJ,ab⟩:=ob au
   refine wc_cutg (IE bI w K [] aa [(1,pt f),(24,V3 B c d),(25,V6 (q0.Syns.length:Int)),(26,V6 ((s:Nat):Int))] [obj f [V3 A a b,V3 B c d] 38]) ?_ ?_
   ·refine wc_block ?_
    obtain⟨cP,bK,aJ⟩:=ob bJ
    have bL:=ar.sb (sk (sd sz))
    refine qf (fun (aw:Nat) (aK:Unit)=>IV w K [] aa [(1,pt f),(24,V3 B c d),(25,V6 (q0.Syns.length:Int)),(26,V6 ((s:Nat):Int)),(50,V3 G H I),(51,V6 (D.From.length:Int)),(52,V6 ((aw:Nat):Int))] [obj f [V3 A a b,V3 B c d] 38]) bK ⟨aa,u,bL,kr⟩ ?_ ?_
    ·rintro aw aK _ bM cQ hi147 bN bO ⟨ax,rfl,R,S⟩
     refine sr (lv (rv_lss u u) (ns (wc_cond_t u (decide_eq_true (by omega)) (wc_skip (qe_seq (wc_seq (wc_block (sr ?_))))))))
     obtain⟨ay,bP,bQ⟩:=ob bN
     refine li underlying22 tf9 (J.mono (O.trans S)) bP fun bR bS cR bT bU=>?_
     obtain⟨rfl,az⟩:=bT
     have bV:AtK _ bR bS [sv ay]:=bU
     refine lv (rv_load1 tf9 u R (bV 0 _ u)) (av u (ns ?_))
     obtain⟨bW,bX,bY⟩:=ob bQ
     refine wc_cutg (IV w K [] ax [(1,pt f),(24,V3 B c d),(25,V6 (q0.Syns.length:Int)),(26,V6 ((s:Nat):Int)),(50,V3 G H I),(51,V6 (D.From.length:Int)),(52,V6 ((aw:Nat):Int)),(70,.bool bW)] [obj f [V3 A a b,V3 B c d] 38]) ?_ ?_
     ·refine wc_region (mv u ?_)
      obtain⟨cS,bZ,ca⟩:=ob bX
      refine lk co48 (ok_impl_WordOk F R.enter0 az bZ) ?_
      rintro cT cU ⟨cb,rfl,T⟩
      have aA:=(R.c0 T).t1
      refine lv (rv_not u) (mv u (bt ca (fun m aB=>?_) (fun m aB=>?_)))
      ·refine lu m (lu m (lu m (lu m (lv (p_t u m u) (mv u (lu u (lu u (lu u (lu u ?_)))))))))
       refine lv (p_t u u u) (wl_nil ?_)
       cases oi aB
       exact qd ⟨cb,u,aA,T.le⟩
      refine lg m (rv_move u) ?_
      obtain⟨cV,cc,cd⟩:=ob aB
      refine wl_call (wg u u m) u (rt_call (vs:=[sv ay]) co84 u) (ok_impl_StemOf F aA.enter0 az cc) ?_
      rintro cW cX ⟨ce,rfl,ac,cY⟩
      refine⟨_,u,?_⟩
      have ad:=(aA.c0 ac).t1
      refine lg m (rv_move u) (lg m (rv_sneq u u) (lv (rv_pick_f u m u) (mv u (bt cd (fun o aC=>?_) (fun o aC=>?_)))))
      ·refine lu o (lu o (lu o (lu o (lv (p_t u o u) (wl_nil ?_)))))
       cases oi aC
       exact qd ⟨ce,u,ad,(T.le.trans ac.le)⟩
      refine lg o (rv_fieldAddr ff38_0 u) (lg o (rv_loadm1 tf22 u m0 ad u) (lg o (rv_move u) ?_))
      obtain⟨cZ,cf,cg⟩:=ob aC
      refine wl_call (wg u u o) u (rt_call (vs:=[V3 A a b,sv ay]) co85 u) (ok_slices_Contains_string F ad.enter0 (SliceAt.mono (((((X.trans C).trans O).trans S).trans T.le).trans ac.le) ae) az cf) ?_
      rintro da db ⟨ch,rfl,aL⟩
      refine⟨_,u,?_⟩
      have cj:=(ad.c0 aL).t1
      refine lv (rv_pick_f u o u) (wl_nil ?_)
      cases oi cg
      exact qd ⟨ch,u,cj,((T.le.trans ac.le).trans aL.le)⟩
     rintro _ dc ⟨aM,rfl,aN,ck⟩
     refine qe_seq (wcc bY u (fun cl aD=>?_) (fun cl aD=>?_))
     ·refine sr (lv (r_f u) (nq (wc_ret (qe_block_ret (qe_then_ret (qe_then_ret ?_))))))
      cases oi aD
      cases bO _ u
      refine qe_block_ret (qe_then_ret ?_)
      cases oi aJ
      refine qe_block_ret (qe_then_ret (qe_then_ret ?_))
      cases oi ab
      cases aG _ u
      refine qe_block_ret (qe_then_ret ?_)
      cases oi ak
      refine qe_then_ret ?_
      cases oi y
      exact ey results43 ⟨aM,u,aN.s⟩
     refine wc_skip (qe_block (qg (lv (rv_add_to u u (w64_succ hi147 (SliceAt.max (J.mono O)))) (mv u (wl_nil ?_)))))
     cases oi aD
     exact qd ⟨_,u,aM,u,aN,(S.trans ck)⟩
    rintro aK _ bM cm ⟨ax,rfl,R,S⟩
    subst cm
    refine sr (lv (rv_lss u u) (ns (wc_cond_f u (decide_eq_false (by omega)) (wc_exit (qe_then_exit (qe_then_exit (qe_block_eq ?_)))))))
    cases oi aJ
    exact qd ⟨_,ax,u,u,R,S⟩
   rintro _ dd ⟨de,cn,rfl,rfl,cp,cq⟩
   have ab:=elim_l ab
   refine qe_block (qg (lv (rv_add_to u u (w64_succ hi53 (SliceAt.max (U.mono X)))) (mv u (wl_nil ?_))))
   cases oi ab
   exact qd ⟨_,u,cn,u,cp,((C.trans O).trans cq)⟩
  rintro aF _ aY cr ⟨am,rfl,Y,C⟩
  subst cr
  refine sr (lv (rv_lss u u) (ns (wc_cond_f u (decide_eq_false (by omega)) (wc_exit (qe_then_exit (qe_then_exit (qe_block_eq ?_)))))))
  cases oi ak
  exact qe_mid' ⟨_,am,u,u,Y.s,C⟩ trivial
 rintro _ df ⟨dg,cs,rfl,rfl,ct,dh⟩
 have y:=elim_l y
 refine qr (lv (r_t u) (nq (wc_ret ?_)))
 cases oi y
 exact ey results43 ⟨cs,u,ct⟩

theorem ok_impl_TextOk {q0:Str}{r:Bool}(hS:SH w K [] w K [])(y:q0.length≤maxLen)(hm:M.impl_TextOk F q0=some r):
  Calls prog 95 #[sv q0] w (R_b w K r):=by
 rw [M.impl_TextOk] at hm
 refine ci func95 u ntmps95 (sr (lv (r_f u) (nsr (mv u (lv (rv_slen underlying9 u) (lv (r_m u) (nq ?_)))))))
 obtain⟨A,B,d⟩:=ob hm
 refine wc_cutg (IE A w K [] K [(0,sv q0)] []) ?_ ?_
 ·refine wc_block ?_
  obtain⟨ab,C,o⟩:=ob B
  refine qf (fun (i:Nat) (q:Unit)=>IV w K [] K [(0,sv q0),(5,V6 (q0.length:Int)),(6,V6 ((i:Nat):Int))] []) C ⟨K,u,hS,kr⟩ ?_ ?_
  ·rintro i q _ D ac hi21 G H ⟨c,rfl,f,k⟩
   refine sr (lv (rv_lss u u) (ns (wc_cond_t u (decide_eq_true (by omega)) (wc_skip (qe_seq (wc_seq (wc_block (sr (mv u (av u (ns ?_)))))))))))
   obtain⟨I,J,O⟩:=ob G
   refine wc_cutg (IV w K [] c [(0,sv q0),(5,V6 (q0.length:Int)),(6,V6 ((i:Nat):Int)),(18,.bool I)] []) ?_ ?_
   ·refine wc_region (mv u (mv u ?_))
    obtain⟨ad,R,S⟩:=ob J
    refine lv (rv_sidx underlying9 u u R) (lv (rv_bl (b:=(32:UInt8)) u u) (mv u (bt S (fun a l=>?_) (fun a l=>?_))))
    ·refine lu a (lu a (lu a (lu a (lv (p_t u a u) (wl_nil ?_)))))
     cases oi l
     exact qd ⟨c,u,f,kr⟩
    refine lg a (rv_move u) (lg a (rv_move u) ?_)
    obtain⟨ae,T,U⟩:=ob l
    refine lg a (rv_sidx underlying9 u u T) (lg a (rv_bg (b:=(126:UInt8)) u u) (lv (rv_pick_f u a u) (wl_nil ?_)))
    cases oi U
    exact qd ⟨c,u,f,kr⟩
   rintro _ af ⟨s,rfl,x,V⟩
   refine qe_seq (wcc O u (fun W m=>?_) (fun W m=>?_))
   ·refine sr (lv (r_f u) (nq (wc_ret (qe_block_ret (qe_then_ret (qe_then_ret ?_))))))
    cases oi m
    cases H _ u
    refine qe_block_ret (qe_then_ret ?_)
    cases oi o
    refine qe_then_ret ?_
    cases oi d
    exact ey results95 ⟨s,u,x⟩
   refine wc_skip (qe_block (qg (lv (rv_add_to u u (w64_succ hi21 y)) (mv u (wl_nil ?_)))))
   cases oi m
   exact qd ⟨_,u,s,u,x,(k.trans V)⟩
  rintro q _ D X ⟨c,rfl,f,k⟩
  subst X
  refine sr (lv (rv_lss u u) (ns (wc_cond_f u (decide_eq_false (by omega)) (wc_exit (qe_then_exit (qe_then_exit (qe_block_eq ?_)))))))
  cases oi o
  exact qd ⟨_,c,u,u,f,k⟩
 rintro _ w9 ⟨s5,Y,rfl,rfl,aa,ai⟩
 have d:=elim_l d
 refine qr (mv u (lv (rv_slen underlying9 u) (lv (rv_leq u u) (av u (nq (wc_ret ?_))))))
 cases oi d
 exact ey results95 ⟨Y,u,aa⟩

theorem ok_impl_DocOk {q0:GDoc}{r:Bool}(hS:SH w K [] w K [])(aH:rng64 q0.Id)(D:SliceAt tGField K A a b q0.Fields)(G:SliceAt tGAttr K B c d q0.Nums)(hm:M.impl_DocOk F q0=some r):
  Calls prog 56 #[.agg #[V6 q0.Id,V3 A a b,V3 B c d]] w (R_b w K r):=by
 rw [M.impl_DocOk] at hm
 refine ci func56 u ntmps56 (sr (bx u hS fun k cT aI=>?_))
 have Y:SH _ _ _ _ _ [obj k [V6 q0.Id,V3 A a b,V3 B c d] 64]:=aI
 refine lv (r_f u) (ns (wc_seq ?_))
 obtain⟨aJ,aK,aL⟩:=ob hm
 refine wc_cutg (IV w K [] K [(1,pt k),(22,.bool aJ)] [obj k [V6 q0.Id,V3 A a b,V3 B c d] 64]) ?_ ?_
 ·refine wc_region (fl ff64_0 u tf3 m0 Y u ?_)
  obtain⟨cU,aM,aN⟩:=ob aK
  refine lk co83 (ok_impl_within F Y.enter0 aH (by decide :rng64 1) (by decide :rng64 9999) aM) ?_
  rintro cV cW ⟨aa,rfl,C⟩
  have H:=(Y.c0 C).t1
  refine lv (rv_not u) (mv u (bt aN (fun o ab=>?_) (fun o ab=>?_)))
  ·refine lu o (lu o (lu o (lu o (lv (p_t u o u) (mv u (lu u (lu u (lu u (lu u ?_)))))))))
   refine lv (p_t u u u) (wl_nil ?_)
   cases oi ab
   exact qd ⟨aa,u,H,C.le⟩
  refine lg o (rv_fieldAddr ff64_1 u) (lg o (rv_loadm1 tf61 u m0 H u) (lg o (rv_len underlying61 u (D.mono C.le)) (lg o (rv_gtr u u) (lv (rv_pick_f u o u) (mv u (bt ab (fun q ac=>?_) (fun q ac=>?_)))))))
  ·refine lu q (lu q (lu q (lu q (lv (p_t u q u) (wl_nil ?_)))))
   cases oi ac
   exact qd ⟨aa,u,H,C.le⟩
  refine lg q (rv_fieldAddr ff64_2 u) (lg q (rv_loadm1 tf62 u m0 H u) (lg q (rv_len underlying62 u (G.mono C.le)) (lg q (rv_gtr u u) (lv (rv_pick_f u q u) (wl_nil ?_)))))
  cases oi ac
  exact qd ⟨aa,u,H,C.le⟩
 rintro _ cX ⟨O,rfl,ad,y⟩
 refine qe_seq (wcc aL u (fun aO ae=>?_) (fun aO ae=>?_))
 ·refine sr (lv (r_f u) (nq (rr ?_)))
  cases oi ae
  exact ey results56 ⟨O,u,ad.s⟩
 refine wc_skip (qs (sr (fl ff64_1 u tf61 m0 ad u (lv (rv_len underlying61 u (D.mono y)) (lv (r_m u) (nq ?_))))))
 obtain⟨aP,aQ,R⟩:=ob ae
 refine wc_cutg (IE aP w K [] O [(1,pt k)] [obj k [V6 q0.Id,V3 A a b,V3 B c d] 64]) ?_ ?_
 ·refine wc_block ?_
  obtain⟨cY,aR,aw⟩:=ob aQ
  refine qf (fun (af:Nat) (ax:Unit)=>IV w K [] O [(1,pt k),(24,V3 A a b),(25,V6 (q0.Fields.length:Int)),(26,V6 ((af:Nat):Int))] [obj k [V6 q0.Id,V3 A a b,V3 B c d] 64]) aR ⟨O,u,ad,kr⟩ ?_ ?_
  ·rintro af ax _ aS cZ hi54 aT aU ⟨ag,rfl,S,I⟩
   refine sr (lv (rv_lss u u) (ns (wc_cond_t u (decide_eq_true (by omega)) (wc_skip (qe_seq (wc_seq (wc_block (sr (mv u ?_)))))))))
   obtain⟨T,aV,aW⟩:=ob aT
   refine li underlying61 tf118 (D.mono (y.trans I)) aV fun aX aY da aZ ba=>?_
   obtain⟨rfl,bb,bc⟩:=aZ
   have bd:AtK _ aX aY [sv T.Name,sv T.Text]:=ba
   refine lv (rv_loadS tf118 u S bd u) (al tf118 S fun be db bf=>?_)
   have bg:SH _ _ _ _ _ [obj be [sv [],sv []] 118,_]:=bf
   refine av u (lw [sv T.Name,sv T.Text] tf118 bg fun dc bh=>(ns ?_))
   obtain⟨bi,bj,bk⟩:=ob aW
   refine wc_cutg (IV w K [] ag [(1,pt k),(24,V3 A a b),(25,V6 (q0.Fields.length:Int)),(26,V6 ((af:Nat):Int)),(56,.bool bi)] [obj k [V6 q0.Id,V3 A a b,V3 B c d] 64]) ?_ ?_
   ·refine wc_quiet mixed (by kernel_rfl) bh (kv (rv_fieldAddr ff118_0 u) (kh (rq_loadm1 tf9 u m0 u) ?_))
    obtain⟨dd,bl,bm⟩:=ob bj
    refine kc co48 (fun _ _ bn de=>(ok_impl_WordOk F) bn.enter0 bb bl) (kv (rv_not u) (km u (bt bm (fun s ah=>?_) (fun s ah=>?_))))
    ·refine kn s (kn s (kn s (kn s (kv (p_t u s u) (km u (qv u u u u (qv u u u u (qv u u u u ?_))))))))
     iterate 10 refine ku ?_
     refine qv u u u u (kv (p_t u u u) (wq_nil ?_))
     rintro df ⟨bo,bp,bq⟩
     cases oi ah
     exact qd ⟨bo,u,bp.s,bq⟩
    refine kg s (rv_fieldAddr ff118_1 u) (kgh s (rq_loadm1 tf9 u m0 u) ?_)
    obtain⟨dg,br,bs⟩:=ob ah
    refine kcg s co95 (fun _ _ bu dh=>(ok_impl_TextOk F) bu.enter0 bc br) (kg s (rv_not u) (kv (rv_pick_f u s u) (km u (bt bs (fun l ai=>?_) (fun l ai=>?_)))))
    ·refine kn l (kn l (kn l ?_))
     iterate 10 refine ku ?_
     refine kn l (kv (p_t u l u) (wq_nil ?_))
     rintro di ⟨bv,bz,bA⟩
     cases oi ai
     exact qd ⟨bv,u,bz.s,bA⟩
    refine kg l (rv_move u) (kg l (rv_gtr u u) (kg l (rv_move u) (bt ai (fun f aj=>?_) (fun f aj=>?_))))
    ·refine kg f (rv_fieldAddr ff64_1 u) (kgh f (rq_loadm1 tf61 u m1 u) (kg f (rv_move u) (kg f (rv_sub u u) ?_)))
     obtain⟨ay,bB,bC⟩:=ob aj
     refine wq_indexAddr (t:=tGField) (wg u u f) u underlying61 tf118 u u (D.mono (y.trans I)) bB fun bD bE dj bF bG=>?_
     obtain⟨rfl,dk,dl⟩:=bF
     have bH:AtK _ bD bE [sv ay.Name,sv ay.Text]:=bG
     refine kg f (rv_fieldAddr ff118_0 u) (kgh f (rq_load1 tf9 u (bH 0 _ u)) (kg f (rv_fieldAddr ff118_0 u) (kgh f (rq_loadm1 tf9 u m0 u) (kg f (rv_sgeq u u) (kg l (rv_pick_t u f u) (kv (rv_pick_f u l u) (wq_nil ?_)))))))
     rintro dm ⟨bI,bJ,bK⟩
     cases oi bC
     exact qd ⟨bI,u,bJ.s,bK⟩
    iterate 10 refine kn f ?_
    refine kg l (p_f u f u) (kv (rv_pick_f u l u) (wq_nil ?_))
    rintro dn ⟨bL,bM,bN⟩
    cases oi aj
    exact qd ⟨bL,u,bM.s,bN⟩
   rintro _ dp ⟨az,rfl,aA,bO⟩
   refine qe_seq (wcc bk u (fun bP ak=>?_) (fun bP ak=>?_))
   ·refine sr (lv (r_f u) (nq (wc_ret (qe_block_ret (qe_then_ret (qe_then_ret ?_))))))
    cases oi ak
    cases aU _ u
    refine qe_block_ret (qe_then_ret ?_)
    cases oi aw
    refine qe_then_ret ?_
    cases oi R
    exact ey results56 ⟨az,u,aA.s⟩
   refine wc_skip (qe_block (qg (lv (rv_add_to u u (w64_succ hi54 (SliceAt.max (D.mono y)))) (mv u (wl_nil ?_)))))
   cases oi ak
   exact qd ⟨_,u,az,u,aA,(I.trans bO)⟩
  rintro ax _ aS bQ ⟨ag,rfl,S,I⟩
  subst bQ
  refine sr (lv (rv_lss u u) (ns (wc_cond_f u (decide_eq_false (by omega)) (wc_exit (qe_then_exit (qe_then_exit (qe_block_eq ?_)))))))
  cases oi aw
  exact qd ⟨_,ag,u,u,S,I⟩
 rintro _ dq ⟨dr,am,rfl,rfl,aB,U⟩
 have R:=elim_l R
 refine qs (sr (fl ff64_2 u tf62 m0 aB u (lv (rv_len underlying62 u (G.mono (y.trans U))) (lv (r_m u) (nq ?_)))))
 obtain⟨bR,bS,V⟩:=ob R
 refine wc_cutg (IE bR w K [] am [] []) ?_ ?_
 ·refine wc_block ?_
  obtain⟨ds,bT,aC⟩:=ob bS
  refine qf (fun (an:Nat) (aD:Unit)=>IV w K [] am [(1,pt k),(59,V3 B c d),(60,V6 (q0.Nums.length:Int)),(61,V6 ((an:Nat):Int))] [obj k [V6 q0.Id,V3 A a b,V3 B c d] 64]) bT ⟨am,u,aB,kr⟩ ?_ ?_
  ·rintro an aD _ bU dt hi156 bV bW ⟨ao,rfl,W,J⟩
   refine sr (lv (rv_lss u u) (ns (wc_cond_t u (decide_eq_true (by omega)) (wc_skip (qe_seq (wc_seq (wc_block (sr (mv u ?_)))))))))
   obtain⟨X,bX,bY⟩:=ob bV
   refine li underlying62 tf135 (G.mono ((y.trans U).trans J)) bX fun bZ ca du cb cc=>?_
   obtain⟨rfl,cd,ce⟩:=cb
   have cf:AtK _ bZ ca [sv X.Name,V6 X.Num]:=cc
   refine lv (rv_loadS tf135 u W cf u) (al tf135 W fun cg dv ch=>?_)
   have cj:SH _ _ _ _ _ [obj cg [sv [],V6 0] 135,_]:=ch
   refine av u (lw [sv X.Name,V6 X.Num] tf135 cj fun dw ck=>(ns ?_))
   obtain⟨cl,cm,cn⟩:=ob bY
   refine wc_cutg (IV w K [] ao [(1,pt k),(59,V3 B c d),(60,V6 (q0.Nums.length:Int)),(61,V6 ((an:Nat):Int)),(91,.bool cl)] [obj k [V6 q0.Id,V3 A a b,V3 B c d] 64]) ?_ ?_
   ·refine wc_quiet mixed (by kernel_rfl) ck (kv (rv_fieldAddr ff135_0 u) (kh (rq_loadm1 tf9 u m0 u) ?_))
    obtain⟨dx,cp,cq⟩:=ob cm
    refine kc co48 (fun _ _ cr dy=>(ok_impl_WordOk F) cr.enter0 cd cp) (kv (rv_not u) (km u (bt cq (fun x ap=>?_) (fun x ap=>?_))))
    ·refine kn x (kn x (kn x (kn x (kv (p_t u x u) (km u (qv u u u u (qv u u u u (qv u u u u ?_))))))))
     iterate 10 refine ku ?_
     refine qv u u u u (kv (p_t u u u) (wq_nil ?_))
     rintro dz ⟨cs,ct,cu⟩
     cases oi ap
     exact qd ⟨cs,u,ct.s,cu⟩
    refine kg x (rv_fieldAddr ff135_1 u) (kgh x (rq_loadm1 tf3 u m0 u) ?_)
    obtain⟨dA,cv,cw⟩:=ob ap
    refine kcg x co83 (fun _ _ cx dB=>(ok_impl_within F) cx.enter0 ce d_0 (by decide :rng64 999999999) cv) (kg x (rv_not u) (kv (rv_pick_f u x u) (km u (bt cw (fun m aq=>?_) (fun m aq=>?_)))))
    ·refine kn m (kn m (kn m ?_))
     iterate 10 refine ku ?_
     refine kn m (kv (p_t u m u) (wq_nil ?_))
     rintro dC ⟨cy,cz,cA⟩
     cases oi aq
     exact qd ⟨cy,u,cz.s,cA⟩
    refine kg m (rv_move u) (kg m (rv_gtr u u) (kg m (rv_move u) (bt aq (fun i ar=>?_) (fun i ar=>?_))))
    ·refine kg i (rv_fieldAddr ff64_2 u) (kgh i (rq_loadm1 tf62 u m1 u) (kg i (rv_move u) (kg i (rv_sub u u) ?_)))
     obtain⟨aE,cB,cC⟩:=ob ar
     refine wq_indexAddr (t:=tGAttr) (wg u u i) u underlying62 tf135 u u (G.mono ((y.trans U).trans J)) cB fun cD cE dD cF cG=>?_
     obtain⟨rfl,dE,dF⟩:=cF
     have cH:AtK _ cD cE [sv aE.Name,V6 aE.Num]:=cG
     refine kg i (rv_fieldAddr ff135_0 u) (kgh i (rq_load1 tf9 u (cH 0 _ u)) (kg i (rv_fieldAddr ff135_0 u) (kgh i (rq_loadm1 tf9 u m0 u) (kg i (rv_sgeq u u) (kg m (rv_pick_t u i u) (kv (rv_pick_f u m u) (wq_nil ?_)))))))
     rintro dG ⟨cI,cJ,cK⟩
     cases oi cC
     exact qd ⟨cI,u,cJ.s,cK⟩
    iterate 10 refine kn i ?_
    refine kg m (p_f u i u) (kv (rv_pick_f u m u) (wq_nil ?_))
    rintro dH ⟨cL,cM,cN⟩
    cases oi ar
    exact qd ⟨cL,u,cM.s,cN⟩
   rintro _ dI ⟨aF,rfl,aG,cO⟩
   refine qe_seq (wcc cn u (fun cP au=>?_) (fun cP au=>?_))
   ·refine sr (lv (r_f u) (nq (wc_ret (qe_block_ret (qe_then_ret (qe_then_ret ?_))))))
    cases oi au
    cases bW _ u
    refine qe_block_ret (qe_then_ret ?_)
    cases oi aC
    refine qe_then_ret ?_
    cases oi V
    exact ey results56 ⟨aF,u,aG.s⟩
   refine wc_skip (qe_block (qg (lv (rv_add_to u u (w64_succ hi156 (SliceAt.max (G.mono (y.trans U))))) (mv u (wl_nil ?_)))))
   cases oi au
   exact qd ⟨_,u,aF,u,aG,(J.trans cO)⟩
  rintro aD _ bU cQ ⟨ao,rfl,W,J⟩
  subst cQ
  refine sr (lv (rv_lss u u) (ns (wc_cond_f u (decide_eq_false (by omega)) (wc_exit (qe_then_exit (qe_then_exit (qe_block_eq ?_)))))))
  cases oi aC
  exact qe_mid' ⟨_,ao,u,u,W.s,J⟩ trivial
 rintro _ dJ ⟨dK,cR,rfl,rfl,cS,dL⟩
 have V:=elim_l V
 refine qr (lv (r_t u) (nq (wc_ret ?_)))
 cases oi V
 exact ey results56 ⟨cR,u,cS⟩

theorem ok_impl_DocsOk {q0:List GDoc}{r:Bool}(hS:SH w K [] w K [])(f:SliceAt tGDoc K A a b q0)(hm:M.impl_DocsOk F q0=some r):
  Calls prog 44 #[V3 A a b] w (R_b w K r):=by
 rw [M.impl_DocsOk] at hm
 refine ci func44 u ntmps44 (sr (lv (r_f u) (nsr (mv u (lv (rv_len underlying40 u f) (lv (r_m u) (nq ?_)))))))
 obtain⟨U,V,k⟩:=ob hm
 refine wc_cutg (IE U w K [] K [(0,V3 A a b)] []) ?_ ?_
 ·refine wc_block ?_
  obtain⟨bc,W,J⟩:=ob V
  refine qf (fun (m:Nat) (O:Unit)=>IV w K [] K [(0,V3 A a b),(5,V3 A a b),(6,V6 (q0.length:Int)),(7,V6 ((m:Nat):Int))] []) W ⟨K,u,hS,kr⟩ ?_ ?_
  ·rintro m O _ X bd hi23 Y aa ⟨o,rfl,l,i⟩
   refine sr (lv (rv_lss u u) (ns (wc_cond_t u (decide_eq_true (by omega)) (wc_skip (qe_seq (wc_seq (wc_block (sr (mv u ?_)))))))))
   obtain⟨q,ab,ac⟩:=ob Y
   refine li underlying40 tf64 (f.mono i) ab fun ad ae be af ag=>?_
   obtain⟨s,x,y,B,C,D,rfl,ah,ai,aj⟩:=af
   have ak:AtK _ ad ae [V6 q.Id,V3 s x y,V3 B C D]:=ag
   refine lv (rv_loadS tf64 u l ak u) (al tf64 l fun am bf an=>?_)
   have ao:SH _ _ _ _ _ [obj am [V6 0,V3 none 0 0,V3 none 0 0] 64]:=an
   refine av u (lw [V6 q.Id,V3 s x y,V3 B C D] tf64 ao fun bg ap=>(ns ?_))
   obtain⟨aq,ar,au⟩:=ob ac
   refine wc_cutg (IV w K [] o [(0,V3 A a b),(5,V3 A a b),(6,V6 (q0.length:Int)),(7,V6 ((m:Nat):Int)),(29,.bool aq)] []) ?_ ?_
   ·refine wc_quiet mixed (by kernel_rfl) ap (kh (rq_loadmS (ds:=[V6 q.Id,V3 s x y,V3 B C D]) tf64 u m0 u u) ?_)
    obtain⟨bh,aw,ax⟩:=ob ar
    refine kc co56 (fun _ _ ay R=>(ok_impl_DocOk F) ay.enter0 ah (ai.mono R) (aj.mono R) aw) (kv (rv_not u) (km u (bt ax (fun c G=>?_) (fun c G=>?_))))
    ·refine kn c (kn c (kn c ?_))
     iterate 9 refine ku ?_
     refine kn c (kv (p_t u c u) (wq_nil ?_))
     rintro bi ⟨az,aA,aB⟩
     cases oi G
     exact qd ⟨az,u,aA.s,aB⟩
    refine kg c (rv_move u) (kg c (rv_gtr u u) (kg c (rv_move u) (bt G (fun d H=>?_) (fun d H=>?_))))
    ·refine kg d (rv_move u) (kg d (rv_move u) (kg d (rv_sub u u) ?_))
     obtain⟨aC,aD,aE⟩:=ob H
     refine wq_indexAddr (t:=tGDoc) (wg u u d) u underlying40 tf64 u u (f.mono i) aD fun aF aG bj aH aI=>?_
     obtain⟨aJ,aK,aL,aM,aN,aO,rfl,bk,bl,bm⟩:=aH
     have aP:AtK _ aF aG [V6 aC.Id,V3 aJ aK aL,V3 aM aN aO]:=aI
     refine kg d (rv_fieldAddr ff64_0 u) (kgh d (rq_load1 tf3 u (aP 0 _ u)) (kg d (rv_fieldAddr ff64_0 u) (kgh d (rq_loadm1 tf3 u m0 u) (kg d (rv_geq u u) (kg c (rv_pick_t u d u) (kv (rv_pick_f u c u) (wq_nil ?_)))))))
     rintro bn ⟨aQ,aR,aS⟩
     cases oi aE
     exact qd ⟨aQ,u,aR.s,aS⟩
    iterate 9 refine kn d ?_
    refine kg c (p_f u d u) (kv (rv_pick_f u c u) (wq_nil ?_))
    rintro bo ⟨aT,aU,aV⟩
    cases oi H
    exact qd ⟨aT,u,aU.s,aV⟩
   rintro _ bp ⟨S,rfl,T,aW⟩
   refine qe_seq (wcc au u (fun aX I=>?_) (fun aX I=>?_))
   ·refine sr (lv (r_f u) (nq (wc_ret (qe_block_ret (qe_then_ret (qe_then_ret ?_))))))
    cases oi I
    cases aa _ u
    refine qe_block_ret (qe_then_ret ?_)
    cases oi J
    refine qe_then_ret ?_
    cases oi k
    exact ey results44 ⟨S,u,T⟩
   refine wc_skip (qe_block (qg (lv (rv_add_to u u (w64_succ hi23 (SliceAt.max f))) (mv u (wl_nil ?_)))))
   cases oi I
   exact qd ⟨_,u,S,u,T,(i.trans aW)⟩
  rintro O _ X aY ⟨o,rfl,l,i⟩
  subst aY
  refine sr (lv (rv_lss u u) (ns (wc_cond_f u (decide_eq_false (by omega)) (wc_exit (qe_then_exit (qe_then_exit (qe_block_eq ?_)))))))
  cases oi J
  exact qd ⟨_,o,u,u,l,i⟩
 rintro _ bq ⟨s8,K9,rfl,rfl,ba,bb⟩
 have k:=elim_l k
 refine qr (mv u (lv (rv_len underlying40 u (f.mono bb)) (lv (rv_leq u u) (av u (nq (wc_ret ?_))))))
 cases oi k
 exact ey results44 ⟨K9,u,ba⟩

theorem ok_impl_lower {q0:UInt8}{r:UInt8}(hS:SH w K [] w K [])(hm:M.impl_lower F q0=some r):
  Calls prog 101 #[iv8 q0] w fun e w'=>∃K',e= .returned (iv8 r)∧SH w K [] w' K' []:=by
 rw [M.impl_lower] at hm
 refine ci func101 u ntmps101 (sr (lv (rv_assign (v:=iv8 0) u) (ns (wc_seq ?_))))
 obtain⟨k,l,m⟩:=ob hm
 refine wc_cutg (IV w K [] K [(0,iv8 q0),(8,.bool k)] []) ?_ ?_
 ·refine wc_region (mv u (lv (rv_bge (b:=(65:UInt8)) u u) (mv u (bt l (fun a c=>?_) (fun a c=>?_)))))
  ·refine lg a (rv_move u) (lg a (rv_ble (b:=(90:UInt8)) u u) (lv (rv_pick_t u a u) (wl_nil ?_)))
   cases oi c
   exact qd ⟨K,u,hS,kr⟩
  refine lu a (lu a (lv (p_f u a u) (wl_nil ?_)))
  cases oi c
  exact qd ⟨K,u,hS,kr⟩
 rintro _ q ⟨f,rfl,i,s⟩
 refine qe_seq (wcc m u (fun o d=>?_) (fun o d=>?_))
 ·refine sr (mv u (lv (rv_badd (b:=(97:UInt8)) u u) (lv (rv_bsub (b:=(65:UInt8)) u u) (av u (nq (rr ?_))))))
  cases oi d
  exact ey results101 ⟨f,u,i⟩
 refine wc_skip (qr (mv u (av u (nq (wc_ret ?_)))))
 cases oi d
 exact ey results101 ⟨f,u,i⟩

theorem ok_impl_WordsOf {q0:Str}{r:(List GWord)}(hS:SH w K [] w K [])(aI:q0.length≤maxLen)(hm:M.impl_WordsOf F q0=some r):
  Calls prog 53 #[sv q0] w fun e w'=>∃a_1 n_2 c_3 K',e= .returned (V3 a_1 n_2 c_3)∧SH w K [] w' K' [tail (V3 a_1 n_2 c_3) 114 4]∧SliceAt tGWord K' a_1 n_2 c_3 r:=by
 rw [M.impl_WordsOf] at hm
 refine ci func53 u ntmps53 (sr (lv (r_n u) (nr (b0 tGWord underlying110 tf114 hS fun a2 w3 K4 cp an ao=>(av u (nsr (mv u ?_)))))))
 obtain⟨r8,aJ,aK⟩:=ob hm
 refine lk co95 (ok_impl_TextOk F ao.enter0 aI aJ) ?_
 rintro cr ct ⟨J,rfl,W⟩
 have ap:=(ao.c0 W).t1
 refine lv (rv_not u) (nq (wcc aK u (fun aL X=>?_) (fun aL X=>?_)))
 ·refine sr (mv u (av u (nq (rr ?_))))
  cases oi X
  exact ey results53 ⟨a2,0,0,J,u,ap,(an.mono W.le)⟩
 refine wc_skip (qs (sr (lv (r_0 u) (nq ?_))))
 obtain⟨aM,aN,aO⟩:=ob X
 refine wc_cutg (fun E' w'=>∃A B C D,E'=[(3,V3 A B C)]∧SH w K [] w' D [tail (V3 A B C) 114 4]∧KLe J D∧SliceAt tGWord D A B C aM) ?_ ?_
 ·refine wc_block ?_
  obtain⟨cu,aP,aQ⟩:=ob aN
  refine qw (fun (a:(List GWord)×Int) E' w'=>∃c d f G,E'=[(0,sv q0),(3,V3 c d f),(4,V6 a.2)]∧SH w K [] w' G [tail (V3 c d f) 114 4]∧KLe J G∧SliceAt tGWord G c d f a.1∧rng64 a.2) aP ⟨a2,0,0,J,u,ap,kr,(an.mono W.le),d_0⟩ ?_
  rintro a _ cv cw aR aS ⟨c,d,f,G,rfl,Y,aa,H,aq⟩
  refine wc_seq (sr (mv u (mv u (lv (rv_slen underlying9 u) (lv (rv_lss u u) (nq (wcc aR u (fun aT ab=>?_) (fun aT ab=>?_))))))))
  ·refine wc_skip (qe_seq (wc_block (wc_seq (sr (mv u (mv u ?_))))))
   obtain⟨cx,aU,aV⟩:=ob ab
   refine lv (rv_sidx underlying9 u u aU) ?_
   obtain⟨cy,aW,aX⟩:=ob aV
   refine lk co101 (ok_impl_lower F Y.enter0 aW) ?_
   rintro cz cA ⟨cB,rfl,o⟩
   have ar:=(Y.c0 o).t1
   obtain⟨cC,aY,aZ⟩:=ob aX
   refine lk co94 (ok_impl_wordByte F ar.enter0 aY) ?_
   rintro cD cE ⟨ba,rfl,q⟩
   have au:=(ar.c0 q).t1
   refine lv (rv_not u) (nq (wcc aZ u (fun bb ac=>?_) (fun bb ac=>?_)))
   ·refine sr (mv u (lv (rv_add u u) (av u (nq (wc_exit (qe_then_exit (qe_block_eq ?_)))))))
    cases oi ac
    exact qd ⟨_,u,c,d,f,ba,u,au,((aa.trans o.le).trans q.le),(H.mono (o.le.trans q.le)),(w64_rng _)⟩
   refine wc_skip (qr (mv u (lv (rv_len underlying110 u (H.mono (o.le.trans q.le))) (mv u (lv (rv_build (cs:=#[sv [],V6 (a.1.length:Int),V6 a.2,V6 0]) sp114 tf114 u (by kernel_rfl)) (al tf114 au fun s cF bc=>?_))))))
   have bd:SH _ _ _ _ _ [obj s [sv [],V6 0,V6 0,V6 0] 114,_]:=bc
   refine ls [sv [],V6 (a.1.length:Int),V6 a.2,V6 0] (.agg #[sv [],V6 (a.1.length:Int),V6 a.2,V6 0]) tf114 bd fun cG be=>(nr (b0 tU8 underlying50 tf5 be fun bf cH ad aw bg bh=>(av u (ns ?_))))
   obtain⟨b,bi,bj⟩:=ob ac
   refine wc_cutg (fun E' w'=>∃O R S T,E'=[(0,sv q0),(3,V3 c d f),(4,V6 b.1),(5,pt s),(6,V3 O R S)]∧SH w K [] w' T [obj s [sv [],V6 (a.1.length:Int),V6 a.2,V6 0] 114,tail (V3 c d f) 114 4,tail (V3 O R S) 5 1]∧KLe ad T∧rng64 b.1∧SliceAt tU8 T O R S b.2) ?_ ?_
   ·refine wc_block ?_
    obtain⟨cI,bk,bl⟩:=ob bi
    refine qw (fun (I:Int×(List UInt8)) E' w'=>∃k l m y,E'=[(0,sv q0),(3,V3 c d f),(4,V6 I.1),(5,pt s),(6,V3 k l m)]∧SH w K [] w' y [obj s [sv [],V6 (a.1.length:Int),V6 a.2,V6 0] 114,tail (V3 c d f) 114 4,tail (V3 k l m) 5 1]∧KLe ad y∧rng64 I.1∧SliceAt tU8 y k l m I.2) bk ⟨bf,0,0,ad,u,bh.f2.f2,kr,aq,bg⟩ ?_
    rintro I _ cJ cK bm bn ⟨k,l,m,y,rfl,ae,af,bo,U⟩
    refine wc_seq (wc_seq ?_)
    obtain⟨bp,bq,br⟩:=ob bm
    refine wc_cutg (IV w K [] y [(0,sv q0),(3,V3 c d f),(4,V6 I.1),(5,pt s),(6,V3 k l m),(39,.bool bp)] [obj s [sv [],V6 (a.1.length:Int),V6 a.2,V6 0] 114,tail (V3 c d f) 114 4,tail (V3 k l m) 5 1]) ?_ ?_
    ·refine wc_region (mv u (mv u (lv (rv_slen underlying9 u) (lv (rv_lss u u) (mv u (bt bq (fun i ag=>?_) (fun i ag=>?_)))))))
     ·refine lg i (rv_move u) (lg i (rv_move u) ?_)
      obtain⟨bs,bu,bv⟩:=ob ag
      refine lg i (rv_sidx underlying9 u u bu) ?_
      obtain⟨bx,bz,bA⟩:=ob bv
      refine wl_call (wg u u i) u (rt_call (vs:=[iv8 bs]) co101 u) (ok_impl_lower F ae.enter0 bz) ?_
      rintro cL cM ⟨cN,rfl,ax⟩
      refine⟨_,u,?_⟩
      have ay:=(ae.c0 ax).t3
      obtain⟨cO,bB,bC⟩:=ob bA
      refine wl_call (wg u u i) u (rt_call (vs:=[iv8 bx]) co94 u) (ok_impl_wordByte F ay.enter0 bB) ?_
      rintro cP cQ ⟨bD,rfl,az⟩
      refine⟨_,u,?_⟩
      have bE:=(ay.c0 az).t3
      refine lv (rv_pick_t u i u) (wl_nil ?_)
      cases oi bC
      exact qd ⟨bD,u,bE,(ax.le.trans az.le)⟩
     iterate 5 refine lu i ?_
     refine lv (p_f u i u) (wl_nil ?_)
     cases oi ag
     exact qd ⟨y,u,ae,kr⟩
    rintro _ cR ⟨aA,rfl,V,x⟩
    refine qe_seq (wcc br u (fun bF ah=>?_) (fun bF ah=>?_))
    ·refine wc_skip (qe_seq (wc_block (wc_seq (sr (mv u (lv (rv_len underlying50 u (U.mono x)) (lv (rv_lss u u) (nq (wcc ah u (fun bG ai=>?_) (fun bG ai=>?_))))))))))
     ·refine wc_region (mv u (mv u (mv u ?_)))
      obtain⟨cS,bH,bI⟩:=ob ai
      refine lv (rv_sidx underlying9 u u bH) ?_
      obtain⟨aj,bJ,bK⟩:=ob bI
      refine lk co101 (ok_impl_lower F V.enter0 bJ) ?_
      rintro cT cU ⟨cV,rfl,ak⟩
      have bL:=(V.c0 ak).t3
      refine lb tU8 (iv8 aj) [iv8 aj] aj underlying50 tf5 u bL fun cW cX cY aB bM bN=>?_
      obtain⟨cZ,bO,bP⟩:=ob bK
      refine lp underlying50 tf5 (U.mono ((x.trans ak.le).trans aB)) bM bO bN.f3 fun bQ bR bS da bT bU bV bW=>(av u (nq (wc_region (mv u (lv (rv_add u u) (av u (nb ?_)))))))
      cases oi bP
      exact qd ⟨_,u,bQ,bR,bS,bT,u,bW.f3.f3.s,((((af.trans x).trans ak.le).trans aB).trans bU),(w64_rng _),bV⟩
     refine wc_skip (qe_seq (wc_region (mv u (lv (rv_add u u) (av u (nb ?_))))))
     cases oi ai
     exact qd ⟨_,u,k,l,m,aA,u,V,(af.trans x),(w64_rng _),(U.mono x)⟩
    refine wc_exit (qe_then_exit (qe_then_exit ?_))
    cases oi ah
    cases bn _ u
    refine qe_block_eq ?_
    cases oi bl
    exact qd ⟨k,l,m,aA,u,V,(af.trans x),bo,(U.mono x)⟩
   rintro _ db ⟨O,R,S,T,rfl,aC,aD,aE,aF⟩
   refine qr (mv u (lv (rv_b2s underlying50 underlying5 underlying9 u aF aC) (mv u (fa ff114_0 u (ls [sv b.2,V6 (a.1.length:Int),V6 a.2,V6 0] (sv b.2) tf9 aC fun dc bX=>(fa ff114_3 u (ls [sv b.2,V6 (a.1.length:Int),V6 a.2,V6 b.1] (V6 b.1) tf3 bX fun dd aG=>(nq (wc_region ?_)))))))))
   refine mv u (lv (rv_loadmS (ds:=[sv b.2,V6 (a.1.length:Int),V6 a.2,V6 b.1]) tf114 u m0 aG u u) (lb tGWord (.agg #[sv b.2,V6 (a.1.length:Int),V6 a.2,V6 b.1]) [sv b.2,V6 (a.1.length:Int),V6 a.2,V6 b.1] (GWord.mk b.2 (a.1.length:Int) a.2 b.1) underlying110 tf114 ⟨u,(SliceAt.max aF),(H.mono (o.le.trans q.le)).rn,aq,aE⟩ aG fun de df dg aH bY bZ=>?_))
   obtain⟨dh,ca,cb⟩:=ob bj
   refine lp underlying110 tf114 (SliceAt.mono ((((o.le.trans q.le).trans aw).trans aD).trans aH) H) bY ca bZ.f2 fun cc cd ce di cf cg ch cj=>(av u (nb ?_))
   cases oi cb
   exact qd ⟨_,u,cc,cd,ce,cf,u,cj.s,((((((aa.trans o.le).trans q.le).trans aw).trans aD).trans aH).trans cg),ch,aE⟩
  refine wc_exit (qe_then_exit (qe_then_exit ?_))
  cases oi ab
  cases aS _ u
  refine qe_block_eq ?_
  cases oi aQ
  exact qd ⟨c,d,f,G,u,Y,aa,H⟩
 rintro _ dj ⟨A,B,C,D,rfl,ck,dk,cl⟩
 refine qr (mv u (av u (nq (wc_ret ?_))))
 cases oi aO
 exact ey results53 ⟨A,B,C,D,u,ck,cl⟩

theorem ok_impl_ruleAt {q0:GConf}{q1:List GTerm}{q2:Int}{r:(Option GSyn)}(hS:SH w K [] w K [])(ch:SliceAt tStr K A a b q0.Stops)(J:SliceAt tGSyn K B c d q0.Syns)(ac:SliceAt tGTerm K C f i q1)(cj:rng64 q2)(hm:M.impl_ruleAt F q0 q1 q2=some r):
  Calls prog 96 #[.agg #[V3 A a b,V3 B c d],V3 C f i,V6 q2] w fun e w'=>∃v_1 K',e= .returned (v_1)∧SH w K [] w' K' []∧PtrO tGSyn K' v_1 r:=by
 rw [M.impl_ruleAt] at hm
 refine ci func96 u ntmps96 (sr (bx u hS fun s ck ax=>?_))
 have ao:SH _ _ _ _ _ [obj s [V3 A a b,V3 B c d] 38]:=ax
 refine lv (rv_assign (v:=.pointer none) u) (nr (lv (rv_assign (v:=.pointer none) u) (nsr (fl ff38_1 u tf36 m0 ao u (lv (rv_len underlying36 u J) (lv (r_m u) (nq ?_)))))))
 obtain⟨ay,az,aA⟩:=ob hm
 refine wc_cutg (fun E' w'=>∃v25 O,E'=[(7,v25)]∧SH w K [] w' O []∧KLe K O∧PtrO tGSyn O v25 ay) ?_ ?_
 ·refine wc_block ?_
  obtain⟨cl,aB,aC⟩:=ob az
  refine qF (fun (R:Nat) (ad:(Option GSyn)) E' w'=>∃v36 G,E'=[(1,V3 C f i),(2,V6 q2),(3,pt s),(7,v36),(16,V6 (q0.Syns.length:Int)),(17,V6 ((R:Nat):Int))]∧SH w K [] w' G [obj s [V3 A a b,V3 B c d] 38]∧KLe K G∧PtrO tGSyn G v36 ad) aB ⟨(.pointer none),K,u,ao,kr,(show PtrO tGSyn _ _ none from u)⟩ ?_ ?_
  ·rintro R ad _ aD cm hi39 aE ⟨v36,G,rfl,U,x,hp37⟩
   refine sr (lv (rv_lss u u) (ns (wc_cond_t u (decide_eq_true (by omega)) (wc_skip (qe_seq (wc_seq (wc_block (sr (mv u (av u (nr (fl ff38_1 u tf36 m0 U u ?_))))))))))))
   refine mv u ?_
   obtain⟨ae,aF,aG⟩:=ob aE
   refine li underlying36 tf128 (J.mono x) aF fun H I cn aH aI=>?_
   obtain⟨V,W,X,rfl,y,aJ⟩:=aH
   have Y:AtK _ H I [V3 V W X,sv ae.To]:=aI
   refine av u (ns (wc_seq ?_))
   obtain⟨aK,aL,aM⟩:=ob aG
   refine wc_cutg (IV w K [] G [(1,V3 C f i),(2,V6 q2),(3,pt s),(7,v36),(9,.pointer (some ⟨H,I,none⟩)),(16,V6 (q0.Syns.length:Int)),(17,V6 ((R:Nat):Int)),(50,.bool aK)] [obj s [V3 A a b,V3 B c d] 38]) ?_ ?_
   ·refine wc_quiet mixed (by kernel_rfl) U (km u (kv (rv_nilCheck u) (kv (rv_fieldAddr ff128_0 u) (kh (rq_load1 tf22 u (Y 0 _ u)) (kv (rv_len underlying22 u y) (km u (kv (rv_len underlying101 u (ac.mono x)) (km u (kv (rv_sub u u) ?_)))))))))
    refine kv (rv_gtr u u) (km u (bt aL (fun o af=>?_) (fun o af=>?_)))
    ·refine kn o (kn o (kn o ?_))
     iterate 11 refine ku ?_
     refine kn o (kv (p_t u o u) (wq_nil ?_))
     rintro cp ⟨aN,aO,aP⟩
     cases oi af
     exact qd ⟨aN,u,aO,aP⟩
    refine kg o (rv_move u) (kg o (rv_pnotnil underlying156 u u hp37) (kg o (rv_move u) (bt af (fun k ag=>?_) (fun k ag=>?_))))
    ·refine kg k (rv_move u) (kg k (rv_nilCheck u) (kg k (rv_fieldAddr ff128_0 u) (kgh k (rq_load1 tf22 u (Y 0 _ u)) (kg k (rv_len underlying22 u y) (kg k (rv_move u) ?_)))))
     obtain⟨aQ,aR,aS⟩:=ob ag
     obtain⟨aT,aU,cq,rfl,aV,aW⟩:=PtrO.get hp37 aR
     obtain⟨aX,aY,aZ,rfl,ba,cr⟩:=aV
     have bb:AtK _ aT aU [V3 aX aY aZ,sv aQ.To]:=aW
     refine kg k (rv_nilCheck u) (kg k (rv_fieldAddr ff128_0 u) (kgh k (rq_load1 tf22 u (bb 0 _ u)) (kg k (rv_len underlying22 u ba) (kg k (rv_leq u u) (kg o (rv_pick_t u k u) (kv (rv_pick_f u o u) (wq_nil ?_)))))))
     rintro cs ⟨bc,bd,be⟩
     cases oi aS
     exact qd ⟨bc,u,bd,be⟩
    iterate 11 refine kn k ?_
    refine kg o (p_f u k u) (kv (rv_pick_f u o u) (wq_nil ?_))
    rintro ct ⟨bf,bg,bh⟩
    cases oi ag
    exact qd ⟨bf,u,bg,bh⟩
   rintro _ cu ⟨aa,rfl,ah,l⟩
   refine qe_seq (wcc aM u (fun bi ai=>?_) (fun bi ai=>?_))
   ·refine wc_exit (qe_then_exit (qe_block_eq (qg (lv (rv_add_to u u (w64_succ hi39 (SliceAt.max J))) (mv u (wl_nil ?_))))))
    cases oi ai
    exact qd ⟨v36,aa,u,ah,(x.trans l),(PtrO.mono l hp37)⟩
   refine wc_skip (qr (lv (r_t u) (nsr (mv u (lv (rv_nilCheck u) (fa ff128_0 u (lv (rv_load1 tf22 u ah ((AtK.mono l Y) 0 _ u)) (lv (rv_len underlying22 u (y.mono l)) (lv (r_m u) ?_)))))))))
   refine nq ?_
   obtain⟨bj,bk,bl⟩:=ob ai
   refine wc_cutg (IV w K [] aa [(1,V3 C f i),(2,V6 q2),(3,pt s),(7,v36),(9,.pointer (some ⟨H,I,none⟩)),(10,.bool bj),(16,V6 (q0.Syns.length:Int)),(17,V6 ((R:Nat):Int))] [obj s [V3 A a b,V3 B c d] 38]) ?_ ?_
   ·refine wc_block ?_
    obtain⟨cv,bm,bn⟩:=ob bk
    refine qF (fun (ap:Nat) (aj:Bool)=>IV w K [] aa [(1,V3 C f i),(2,V6 q2),(3,pt s),(7,v36),(9,.pointer (some ⟨H,I,none⟩)),(10,.bool aj),(16,V6 (q0.Syns.length:Int)),(17,V6 ((R:Nat):Int)),(54,V3 V W X),(55,V6 (ae.From.length:Int)),(56,V6 ((ap:Nat):Int))] [obj s [V3 A a b,V3 B c d] 38]) bm ⟨aa,u,ah,kr⟩ ?_ ?_
    ·rintro ap aj _ bo cw hi112 bp ⟨aq,rfl,S,D⟩
     refine sr (lv (rv_lss u u) (ns (wc_cond_t u (decide_eq_true (by omega)) (wc_skip (qe_seq (wc_seq (wc_block (sr (mv u ?_)))))))))
     obtain⟨bq,br,bs⟩:=ob bp
     refine li underlying22 tf9 (y.mono (l.trans D)) br fun bu bv cx bz bA=>?_
     obtain⟨rfl,cy⟩:=bz
     have bB:AtK _ bu bv [sv bq]:=bA
     refine lv (rv_load1 tf9 u S (bB 0 _ u)) (av u (av u (nr (mv u (mv u (mv u (lv (rv_add u u) ?_)))))))
     obtain⟨ab,bC,bD⟩:=ob bs
     refine li underlying101 tf104 (ac.mono ((x.trans l).trans D)) bC fun bE bF cz bG bH=>?_
     obtain⟨rfl,cA,cB⟩:=bG
     have bI:AtK _ bE bF [sv ab.Text,V6 ab.At]:=bH
     refine lv (rv_loadS tf104 u S bI u) (al tf104 S fun bJ cC bK=>?_)
     have bL:SH _ _ _ _ _ [obj bJ [sv [],V6 0] 104,_]:=bK
     refine lw [sv ab.Text,V6 ab.At] tf104 bL fun cD bM=>(nq (wc_quiet mixed (by kernel_rfl) bM (km u (km u (bt bD (fun q ak=>?_) (fun q ak=>?_))))))
     ·refine kg q (rv_fieldAddr ff104_0 u) (kgh q (rq_loadm1 tf9 u m0 u) (kg q (rv_move u) (kg q (rv_seql u u) (kv (rv_pick_t u q u) (km u (bt ak (fun m am=>?_) (fun m am=>?_)))))))
      ·refine kg m (rv_fieldAddr ff104_1 u) (kgh m (rq_loadm1 tf3 u m0 u) (kg m (rv_move u) (kg m (rv_move u) ?_)))
       obtain⟨ar,bN,bO⟩:=ob am
       refine wq_indexAddr (t:=tGTerm) (wg u u m) u underlying101 tf104 u u (ac.mono ((x.trans l).trans D)) bN fun bP bQ cE bR bS=>?_
       obtain⟨rfl,cF,cG⟩:=bR
       have bT:AtK _ bP bQ [sv ar.Text,V6 ar.At]:=bS
       refine kg m (rv_fieldAddr ff104_1 u) (kgh m (rq_load1 tf3 u (bT 1 _ u)) (kg m (rv_move u) (kg m (rv_add u u) (kg m (rv_eql u u) (kv (rv_pick_t u m u) (kv (rv_assign u) (wq_nil ?_)))))))
       rintro cH ⟨bU,bV,bW⟩
       refine qe_block (qg (lv (rv_add_to u u (w64_succ hi112 (SliceAt.max (y.mono l)))) (mv u (wl_nil ?_))))
       cases oi bO
       exact qd ⟨bU,u,bV.s,(D.trans bW)⟩
      iterate 10 refine kn m ?_
      refine kv (p_f u m u) (kv (rv_assign u) (wq_nil ?_))
      rintro cI ⟨bX,bY,bZ⟩
      refine qe_block (qg (lv (rv_add_to u u (w64_succ hi112 (SliceAt.max (y.mono l)))) (mv u (wl_nil ?_))))
      cases oi am
      exact qd ⟨bX,u,bY.s,(D.trans bZ)⟩
     refine kn q (kn q (kn q (kn q (kv (p_f u q u) (km u ?_)))))
     iterate 10 refine qv u u u u ?_
     refine kv (p_f u u u) (kv (rv_assign u) (wq_nil ?_))
     rintro cJ ⟨ca,cb,cc⟩
     refine qe_block (qg (lv (rv_add_to u u (w64_succ hi112 (SliceAt.max (y.mono l)))) (mv u (wl_nil ?_))))
     cases oi ak
     exact qd ⟨ca,u,cb.s,(D.trans cc)⟩
    rintro aj _ bo cd ⟨aq,rfl,S,D⟩
    subst cd
    refine sr (lv (rv_lss u u) (ns (wc_cond_f u (decide_eq_false (by omega)) (wc_exit (qe_then_exit (qe_then_exit (qe_block_eq ?_)))))))
    cases oi bn
    exact qd ⟨aq,u,S,D⟩
   rintro _ cK ⟨au,rfl,aw,T⟩
   refine qr (mv u (nq (wcc bl u (fun ce an=>?_) (fun ce an=>?_))))
   ·refine wc_region (mv u (av u (nb (qg (lv (rv_add_to u u (w64_succ hi39 (SliceAt.max J))) (mv u (wl_nil ?_)))))))
    cases oi an
    exact qd ⟨(.pointer (some ⟨H,I,none⟩)),au,u,aw,((x.trans l).trans T),⟨H,I,.agg #[V3 V W X,sv ae.To],u,⟨V,W,X,u,(y.mono (l.trans T)),aJ⟩,(AtK.mono (l.trans T) Y)⟩⟩
   refine wc_skip (qe_block (qg (lv (rv_add_to u u (w64_succ hi39 (SliceAt.max J))) (mv u (wl_nil ?_)))))
   cases oi an
   exact qd ⟨v36,au,u,aw,((x.trans l).trans T),(PtrO.mono (l.trans T) hp37)⟩
  rintro ad _ aD cf ⟨v36,G,rfl,U,x,hp37⟩
  subst cf
  refine sr (lv (rv_lss u u) (ns (wc_cond_f u (decide_eq_false (by omega)) (wc_exit (qe_then_exit (qe_then_exit (qe_block_eq ?_)))))))
  cases oi aC
  exact qd ⟨v36,G,u,U.s,x,hp37⟩
 rintro _ cL ⟨v25,O,rfl,cg,cM,hp26⟩
 refine qr (mv u (av u (nq (wc_ret ?_))))
 cases oi aA
 exact ey results96 ⟨v25,O,u,cg,hp26⟩

theorem ok_impl_TermsOf {q0:GConf}{q1:Str}{r:(List GTerm)}(hS:SH w K [] w K [])(aj:SliceAt tStr K A a b q0.Stops)(aS:SliceAt tGSyn K B c d q0.Syns)(aT:q1.length≤maxLen)(hm:M.impl_TermsOf F q0 q1=some r):
  Calls prog 49 #[.agg #[V3 A a b,V3 B c d],sv q1] w fun e w'=>∃a_1 n_2 c_3 K',e= .returned (V3 a_1 n_2 c_3)∧SH w K [] w' K' [tail (V3 a_1 n_2 c_3) 104 2]∧SliceAt tGTerm K' a_1 n_2 c_3 r:=by
 rw [M.impl_TermsOf] at hm
 refine ci func49 u ntmps49 (sr (bx u hS fun i dR bk=>?_))
 have bl:SH _ _ _ _ _ [obj i [V3 A a b,V3 B c d] 38]:=bk
 refine lv (r_n u) (nr (b0 tGTerm underlying101 tf104 bl fun k dS bm J aU az=>(av u (ns (wc_seq ?_)))))
 obtain⟨bn,bo,bp⟩:=ob hm
 refine wc_cutg (IV w K [] bm [(1,sv q1),(2,pt i),(5,V3 k 0 0),(20,.bool bn)] [obj i [V3 A a b,V3 B c d] 38,tail (V3 k 0 0) 104 2]) ?_ ?_
 ·refine wc_region (lv (rv_loadmS (ds:=[V3 A a b,V3 B c d]) tf38 u m1 az u u) ?_)
  obtain⟨dT,bq,br⟩:=ob bo
  refine lk co43 (ok_impl_ConfOk F az.enter0 (aj.mono J) (aS.mono J) bq) ?_
  rintro dU dV ⟨bs,rfl,aA⟩
  have aB:=(az.c0 aA).t2
  refine lv (rv_not u) (mv u (bt br (fun l aC=>?_) (fun l aC=>?_)))
  ·refine lu l (lu l (lu l (lv (p_t u l u) (wl_nil ?_))))
   cases oi aC
   exact qd ⟨bs,u,aB.f1,aA.le⟩
  refine lg l (rv_move u) ?_
  obtain⟨dW,bu,bv⟩:=ob aC
  refine wl_call (wg u u l) u (rt_call (vs:=[sv q1]) co95 u) (ok_impl_TextOk F aB.enter0 aT bu) ?_
  rintro dX dY ⟨bz,rfl,aV⟩
  refine⟨_,u,?_⟩
  have bA:=(aB.c0 aV).t2
  refine lg l (rv_not u) (lv (rv_pick_f u l u) (wl_nil ?_))
  cases oi bv
  exact qd ⟨bz,u,bA.f1,(aA.le.trans aV.le)⟩
 rintro _ dZ ⟨bB,rfl,aW,O⟩
 refine qe_seq (wcc bp u (fun bC aD=>?_) (fun bC aD=>?_))
 ·refine sr (mv u (av u (nq (rr ?_))))
  cases oi aD
  exact ey results49 ⟨k,0,0,bB,u,aW.s,(aU.mono O)⟩
 refine wc_skip (qr (b0 tGTerm underlying101 tf104 aW fun bD ea eb Y bE aX=>(av u (nsr (mv u ?_)))))
 obtain⟨aY,bF,bG⟩:=ob aD
 refine lk co53 (ok_impl_WordsOf F aX.enter0 aT bF) ?_
 rintro ec ed ⟨aZ,ba,bb,aE,rfl,y,ak⟩
 have bH:=(aX.c0 y).t4
 refine lv (rv_len underlying110 u ak) (lv (r_m u) (nq ?_))
 obtain⟨bI,bJ,bK⟩:=ob bG
 refine wc_cutg (fun E' w'=>∃R S T C,E'=[(2,pt i),(5,V3 k 0 0),(6,V3 R S T)]∧SH w K [] w' C [obj i [V3 A a b,V3 B c d] 38,tail (V3 k 0 0) 104 2,tail (V3 R S T) 104 2]∧KLe aE C∧SliceAt tGTerm C R S T bI) ?_ ?_
 ·refine wc_block ?_
  obtain⟨ee,bL,bM⟩:=ob bJ
  have bN:=bH.f1.f3.f3.sb (sk (sk (sk (sd sz))))
  refine qF (fun (aF:Nat) (aG:(List GTerm)) E' w'=>∃m o q U,E'=[(2,pt i),(5,V3 k 0 0),(6,V3 m o q),(24,V3 aZ ba bb),(25,V6 (aY.length:Int)),(26,V6 ((aF:Nat):Int))]∧SH w K [] w' U [obj i [V3 A a b,V3 B c d] 38,tail (V3 k 0 0) 104 2,tail (V3 m o q) 104 2]∧KLe aE U∧SliceAt tGTerm U m o q aG) bL ⟨bD,0,0,aE,u,bN,kr,(bE.mono y.le)⟩ ?_ ?_
  ·rintro aF aG _ bO ef hi97 bP ⟨m,o,q,U,rfl,am,D,an⟩
   refine sr (lv (rv_lss u u) (ns (wc_cond_t u (decide_eq_true (by omega)) (wc_skip (qe_seq (wc_seq (wc_block (sr ?_))))))))
   obtain⟨f,bQ,bR⟩:=ob bP
   refine li underlying110 tf114 (ak.mono D) bQ fun bS bT eg bU bV=>?_
   obtain⟨rfl,bc,bW,eh,ei⟩:=bU
   have bX:AtK _ bS bT [sv f.Text,V6 f.At,V6 f.From,V6 f.To]:=bV
   refine lv (rv_loadS tf114 u am bX u) (al tf114 am fun aH ej bY=>?_)
   have bZ:SH _ _ _ _ _ [obj aH [sv [],V6 0,V6 0,V6 0] 114,_,_,_]:=bY
   refine lw [sv f.Text,V6 f.At,V6 f.From,V6 f.To] tf114 bZ fun ek aI=>(nr (fl ff114_0 u tf9 m0 aI u ?_))
   obtain⟨V,ca,cb⟩:=ob bR
   refine lk co84 (ok_impl_StemOf F aI.enter0 bc ca) ?_
   rintro el em ⟨cc,rfl,G,bd⟩
   have ao:=(aI.c0 G).t4
   refine av u (ns ?_)
   obtain⟨cd,ce,cf⟩:=ob cb
   refine wc_cutg (IV w K [] cc [(2,pt i),(5,V3 k 0 0),(6,V3 m o q),(8,pt aH),(9,sv V),(24,V3 aZ ba bb),(25,V6 (aY.length:Int)),(26,V6 ((aF:Nat):Int)),(45,.bool cd)] [obj i [V3 A a b,V3 B c d] 38,obj aH [sv f.Text,V6 f.At,V6 f.From,V6 f.To] 114,tail (V3 k 0 0) 104 2,tail (V3 m o q) 104 2]) ?_ ?_
   ·refine wc_region (fl ff38_0 u tf22 m1 ao u (fl ff114_0 u tf9 m0 ao u ?_))
    obtain⟨en,cg,ch⟩:=ob ce
    refine lk co85 (ok_slices_Contains_string F ao.enter0 (SliceAt.mono (((((J.trans O).trans Y).trans y.le).trans D).trans G.le) aj) bc cg) ?_
    rintro eo ep ⟨cj,rfl,ap⟩
    have aq:=(ao.c0 ap).t4
    refine lv (rv_not u) (mv u (bt ch (fun s aJ=>?_) (fun s aJ=>?_)))
    ·refine lg s (rv_fieldAddr ff38_0 u) (lg s (rv_loadm1 tf22 u m1 aq u) (lg s (rv_move u) ?_))
     obtain⟨eq,ck,cl⟩:=ob aJ
     refine wl_call (wg u u s) u (rt_call (vs:=[V3 A a b,sv V]) co85 u) (ok_slices_Contains_string F aq.enter0 (SliceAt.mono ((((((J.trans O).trans Y).trans y.le).trans D).trans G.le).trans ap.le) aj) bd ck) ?_
     rintro es et ⟨cm,rfl,be⟩
     refine⟨_,u,?_⟩
     have cn:=(aq.c0 be).t4
     refine lg s (rv_not u) (lv (rv_pick_t u s u) (wl_nil ?_))
     cases oi cl
     exact qd ⟨cm,u,cn.f3.f3.f2.f3,(ap.le.trans be.le)⟩
    iterate 5 refine lu s ?_
    refine lv (p_f u s u) (wl_nil ?_)
    cases oi aJ
    exact qd ⟨cj,u,aq.f3.f3.f2.f3,ap.le⟩
   rintro _ eu ⟨cp,rfl,aK,ar⟩
   refine qe_seq (wcc cf u (fun cq aL=>?_) (fun cq aL=>?_))
   ·refine wc_region (mv u (mv u (fl ff114_1 u tf3 m1 aK u (lv (rv_build (cs:=#[sv V,V6 f.At]) sp104 tf104 u (by kernel_rfl)) (lb tGTerm (.agg #[sv V,V6 f.At]) [sv V,V6 f.At] (GTerm.mk V f.At) underlying101 tf104 ⟨u,bd,bW⟩ aK fun ev ew ex bf cr ct=>?_)))))
    obtain⟨eA,cu,cv⟩:=ob aL
    refine lp underlying101 tf104 (an.mono ((G.le.trans ar).trans bf)) cr cu ct.f4 fun cw cx cy eB cz cA cB cC=>(av u (nb (qg (lv (rv_add_to u u (w64_succ hi97 (SliceAt.max ak))) (mv u (wl_nil ?_))))))
    cases oi cv
    exact qd ⟨cw,cx,cy,cz,u,cC.f4.f3.s,((((D.trans G.le).trans ar).trans bf).trans cA),cB⟩
   refine wc_skip (qe_block (qg (lv (rv_add_to u u (w64_succ hi97 (SliceAt.max ak))) (mv u (wl_nil ?_)))))
   cases oi aL
   exact qd ⟨m,o,q,cp,u,aK.s,((D.trans G.le).trans ar),(an.mono (G.le.trans ar))⟩
  rintro aG _ bO cD ⟨m,o,q,U,rfl,am,D,an⟩
  subst cD
  refine sr (lv (rv_lss u u) (ns (wc_cond_f u (decide_eq_false (by omega)) (wc_exit (qe_then_exit (qe_then_exit (qe_block_eq ?_)))))))
  cases oi bM
  exact qd ⟨m,o,q,U,u,am,D,an⟩
 rintro _ eC ⟨R,S,T,C,rfl,cE,aM,au⟩
 refine qs (sr (lv (r_0 u) (nq ?_)))
 obtain⟨cF,cG,cH⟩:=ob bK
 refine wc_cutg (fun E' w'=>∃aa ab ac ad,E'=[(5,V3 aa ab ac)]∧SH w K [] w' ad [tail (V3 aa ab ac) 104 2]∧KLe C ad∧SliceAt tGTerm ad aa ab ac cF) ?_ ?_
 ·refine wc_block ?_
  obtain⟨eD,cI,cJ⟩:=ob cG
  refine qw (fun (aw:(List GTerm)×Int) E' w'=>∃ae af ag ah,E'=[(2,pt i),(5,V3 ae af ag),(6,V3 R S T),(10,V6 aw.2)]∧SH w K [] w' ah [obj i [V3 A a b,V3 B c d] 38,tail (V3 ae af ag) 104 2,tail (V3 R S T) 104 2]∧KLe C ah∧SliceAt tGTerm ah ae af ag aw.1∧rng64 aw.2) cI ⟨k,0,0,C,u,cE,kr,(SliceAt.mono (((O.trans Y).trans y.le).trans aM) aU),d_0⟩ ?_
  rintro aw _ eE eF cK cL ⟨ae,af,ag,ah,rfl,ax,x,aN,cM⟩
  refine wc_seq (sr (mv u (mv u (lv (rv_len underlying101 u (au.mono x)) (lv (rv_lss u u) (nq (wcc cK u (fun cN aO=>?_) (fun cN aO=>?_))))))))
  ·refine wc_skip (qe_seq (wc_block (sr (lv (rv_loadmS (ds:=[V3 A a b,V3 B c d]) tf38 u m0 ax u u) (mv u (mv u ?_))))))
   obtain⟨eG,cO,cP⟩:=ob aO
   refine lk co96 (ok_impl_ruleAt F ax.enter0 (SliceAt.mono (((((J.trans O).trans Y).trans y.le).trans aM).trans x) aj) (SliceAt.mono (((((J.trans O).trans Y).trans y.le).trans aM).trans x) aS) (au.mono x) cM cO) ?_
   rintro eH eI ⟨v221,cQ,rfl,H,hp222⟩
   have aP:=(ax.c0 H).t3
   refine av u (nsr (mv u (lv (rv_pnil underlying156 u u hp222) (nq (wcc cP u (fun cR aQ=>?_) (fun cR aQ=>?_))))))
   ·refine sr (mv u (mv u (mv u ?_)))
    obtain⟨I,cS,cT⟩:=ob aQ
    refine li underlying101 tf104 (au.mono (x.trans H.le)) cS fun cU cV eJ cW cX=>?_
    obtain⟨rfl,cY,cZ⟩:=cW
    have da:AtK _ cU cV [sv I.Text,V6 I.At]:=cX
    refine lv (rv_loadS tf104 u aP da u) (lb tGTerm (.agg #[sv I.Text,V6 I.At]) [sv I.Text,V6 I.At] I underlying101 tf104 ⟨u,cY,cZ⟩ aP fun eK eL eM bg db dc=>?_)
    obtain⟨eN,dd,de⟩:=ob cT
    refine lp underlying101 tf104 (aN.mono (H.le.trans bg)) db dd dc.f2 fun df dg dh eO di dj dk dl=>(av u (nr (mv u (lv (rv_add u u) (av u (nq (wc_exit (qe_then_exit (qe_block_eq ?_)))))))))
    cases oi de
    exact qd ⟨_,u,df,dg,dh,di,u,dl.f3.f1.f3.s,(((x.trans H.le).trans bg).trans dj),dk,(w64_rng _)⟩
   refine wc_skip (qs ?_)
   have bh:=aP.drew
   refine wh1 (fun w'=>Holds cQ w') (fun w'=>True) 14 [] mixed (bh.hasK kr) (fun _=>trivial) (gt (rv_move u) (gt (rv_move u) ?_))
   obtain⟨ai,dm,dn⟩:=ob aQ
   obtain⟨dp,dq,eP,rfl,dr,dt⟩:=PtrO.get hp222 dm
   obtain⟨du,dv,dw,rfl,dx,dy⟩:=dr
   have bi:AtK _ dp dq [V3 du dv dw,sv ai.To]:=dt
   refine gt (rv_nilCheck u) (gt (rv_fieldAddr ff128_1 u) (gh (fun _ h=>rh_load1 tf9 u (bi 1 _ u) h) (gt (rv_move u) (gt (rv_move u) ?_))))
   obtain⟨W,dz,dA⟩:=ob dn
   refine gi underlying101 tf104 (au.mono (x.trans H.le)) dz fun dB dC eQ dD dE=>?_
   obtain⟨rfl,eR,dF⟩:=dD
   have dG:AtK _ dB dC [sv W.Text,V6 W.At]:=dE
   refine gt (rv_fieldAddr ff104_1 u) (gh (fun _ h=>rh_load1 tf3 u (dG 1 _ u) h) (gt (rv_build (cs:=#[sv ai.To,V6 W.At]) sp104 tf104 u (by kernel_rfl)) (gn (lb tGTerm (.agg #[sv ai.To,V6 W.At]) [sv ai.To,V6 W.At] (GTerm.mk ai.To W.At) underlying101 tf104 ⟨u,dy,dF⟩ bh fun eS eT eU X dH bj=>(wl_nil (qh (bj.hasK X) (fun _=>trivial) (gn ?_)))))))
   obtain⟨eV,dI,dJ⟩:=ob dA
   refine lp underlying101 tf104 (aN.mono (H.le.trans X)) dH dI bj.f2 fun dK dL dM eW dN ay dO aR=>(wl_nil (qh (aR.hasK (X.trans ay)) (fun _=>trivial) (gt (rv_assign u) (gd' (qe_seq (wc_region (mv u (mv u (lv (rv_nilCheck u) (fa ff128_0 u ?_))))))))))
   refine lv (rv_load1 tf22 u aR ((AtK.mono (X.trans ay) bi) 0 _ u)) (lv (rv_len underlying22 u (dx.mono (X.trans ay))) (lv (rv_add u u) (av u (nb ?_))))
   cases oi dJ
   exact qd ⟨_,u,dK,dL,dM,dN,u,aR.f3.f1.f3.s,(((x.trans H.le).trans X).trans ay),dO,(w64_rng _)⟩
  refine wc_exit (qe_then_exit (qe_then_exit ?_))
  cases oi aO
  cases cL _ u
  refine qe_block_eq ?_
  cases oi cJ
  exact qd ⟨ae,af,ag,ah,u,ax.s,x,aN⟩
 rintro _ eX ⟨aa,ab,ac,ad,rfl,dP,eY,dQ⟩
 refine qr (mv u (av u (nq (wc_ret ?_))))
 cases oi cH
 exact ey results49 ⟨aa,ab,ac,ad,u,dP,dQ⟩

theorem ok_impl_cloneDoc {q0:GDoc}{r:GDoc}(hS:SH w K [] w K [])(G:rng64 q0.Id)(H:SliceAt tGField K A a b q0.Fields)(I:SliceAt tGAttr K B c d q0.Nums)(hm:M.impl_cloneDoc F q0=some r):
  Calls prog 133 #[.agg #[V6 q0.Id,V3 A a b,V3 B c d]] w fun e w'=>∃a_2 n_3 c_4 a_6 n_7 c_8 K',e= .returned (.agg #[V6 r.Id,V3 a_2 n_3 c_4,V3 a_6 n_7 c_8])∧SH w K [] w' K' [tail (V3 a_2 n_3 c_4) 118 2,tail (V3 a_6 n_7 c_8) 135 2]∧rng64 r.Id∧SliceAt tGField K' a_2 n_3 c_4 r.Fields∧SliceAt tGAttr K' a_6 n_7 c_8 r.Nums:=by
 rw [M.impl_cloneDoc] at hm
 refine ci func133 u ntmps133 (sr (bx u hS fun aC aX aE=>?_))
 have aF:SH _ _ _ _ _ [obj aC [V6 q0.Id,V3 A a b,V3 B c d] 64]:=aE
 refine al tf64 aF fun aG aY aH=>?_
 have aI:SH _ _ _ _ _ [obj aG [V6 0,V3 none 0 0,V3 none 0 0] 64,_]:=aH
 refine ns ?_
 obtain⟨aZ,J,aJ⟩:=ob hm
 obtain⟨ba,O,R⟩:=ob aJ
 have v:=aI.drew
 refine j_0 (fun w'=>Holds K w'∧HasObj aC [V6 q0.Id,V3 A a b,V3 B c d] w') 12 [] mixed ⟨v.hasK kr,v.hasObj m1⟩ (jv 0 u (rv_fieldAddr ff64_0 u) (jh 1 u (fun _ h=>rh_loadm1 tf3 u u h.2) (jv 3 u (rv_fieldAddr ff64_1 u) (jh 4 u (fun _ h=>rh_loadm1 tf61 u u h.2) (jv 7 u (rv_fieldAddr ff64_2 u) (jh 8 u (fun _ h=>rh_loadm1 tf62 u u h.2) (j2 2 6 u u ?_ ?_)))))))
 ·refine b0 tGField underlying61 tf118 v fun bb bc bd f aD x=>(j_o ⟨x.hasK f,x.hasObj m2⟩ (j2 5 6 u u ?_ ?_))
  ·refine lp underlying61 tf118 aD (H.mono f) J x fun S T U be bf m aK V=>(j_o ⟨V.hasK (f.trans m),V.hasObj m2⟩ (j1 6 u (b0 tGAttr underlying62 tf135 V fun bg bh bi o aL W=>(j_o ⟨W.hasK ((f.trans m).trans o),W.hasObj m3⟩ (j1 9 u (lp underlying62 tf135 aL (I.mono ((f.trans m).trans o)) O W fun X Y aa bj aM ab aN ac=>(j_o ⟨ac.hasK (((f.trans m).trans o).trans ab),ac.hasObj m3⟩ (jv 10 u (rv_build (cs:=#[V6 q0.Id,V3 S T U,V3 X Y aa]) sp64 tf64 u (by kernel_rfl)) (j1 11 u ?_)))))))))
   refine lw [V6 q0.Id,V3 S T U,V3 X Y aa] tf64 ac.f2 fun bk y=>(j_o ⟨y.hasK (((f.trans m).trans o).trans ab),y.hasObj m3⟩ (jd (qe_seq (wc_ret ?_))))
   cases oi R
   exact ez results133 tf64 y m0 ⟨S,T,U,X,Y,aa,aM,u,y.f1.f2.s,G,(aK.mono (o.trans ab)),aN⟩
  refine b0 tGAttr underlying62 tf135 x fun bl bm bn i aO ad=>(j_o ⟨ad.hasK (f.trans i),ad.hasObj m3⟩ (j1 5 u (lp underlying61 tf118 (aD.mono i) (H.mono (f.trans i)) J ad.f1 fun ae af ag bo bp q aP ah=>(j_o ⟨ah.hasK ((f.trans i).trans q),ah.hasObj m3⟩ (j1 9 u (lp underlying62 tf135 (aO.mono q) (I.mono ((f.trans i).trans q)) O ah.f1 fun ai aj ak bq aQ am aR an=>(j_o ⟨an.hasK (((f.trans i).trans q).trans am),an.hasObj m3⟩ (jv 10 u (rv_build (cs:=#[V6 q0.Id,V3 ae af ag,V3 ai aj ak]) sp64 tf64 u (by kernel_rfl)) (j1 11 u ?_)))))))))
  refine lw [V6 q0.Id,V3 ae af ag,V3 ai aj ak] tf64 an.f2 fun br C=>(j_o ⟨C.hasK (((f.trans i).trans q).trans am),C.hasObj m3⟩ (jd (qe_seq (wc_ret ?_))))
  cases oi R
  exact ez results133 tf64 C m0 ⟨ae,af,ag,ai,aj,ak,aQ,u,C.f1.f2.s,G,(aP.mono am),aR⟩
 refine b0 tGAttr underlying62 tf135 v fun bs bu bv k aS ao=>(j_o ⟨ao.hasK k,ao.hasObj m2⟩ (j1 2 u (b0 tGField underlying61 tf118 ao fun bz bA bB l aT ap=>(j_o ⟨ap.hasK (k.trans l),ap.hasObj m3⟩ (j1 5 u (lp underlying61 tf118 aT (H.mono (k.trans l)) J ap fun aq ar au bC bD s aU aw=>(j_o ⟨aw.hasK ((k.trans l).trans s),aw.hasObj m3⟩ (j1 9 u (lp underlying62 tf135 (aS.mono (l.trans s)) (I.mono ((k.trans l).trans s)) O aw.f1 fun ax ay az bE aV aA aW aB=>?_)))))))))
 refine j_o ⟨aB.hasK (((k.trans l).trans s).trans aA),aB.hasObj m3⟩ (jv 10 u (rv_build (cs:=#[V6 q0.Id,V3 aq ar au,V3 ax ay az]) sp64 tf64 u (by kernel_rfl)) (j1 11 u (lw [V6 q0.Id,V3 aq ar au,V3 ax ay az] tf64 aB.f2 fun bF D=>(j_o ⟨D.hasK (((k.trans l).trans s).trans aA),D.hasObj m3⟩ (jd (qe_seq (wc_ret ?_)))))))
 cases oi R
 exact ez results133 tf64 D m0 ⟨aq,ar,au,ax,ay,az,aV,u,D.f1.f2.s,G,(aU.mono aA),aW⟩

theorem ok_impl_cloneDocs {q0:List GDoc}{r:(List GDoc)}(hS:SH w K [] w K [])(x:SliceAt tGDoc K A a b q0)(hm:M.impl_cloneDocs F q0=some r):
  Calls prog 86 #[V3 A a b] w fun e w'=>∃a_1 n_2 c_3 K',e= .returned (V3 a_1 n_2 c_3)∧SH w K [] w' K' [tail (V3 a_1 n_2 c_3) 64 3]∧SliceAt tGDoc K' a_1 n_2 c_3 r:=by
 rw [M.impl_cloneDocs] at hm
 refine ci func86 u ntmps86 (sr (lv (r_n u) (nr (b0 tGDoc underlying40 tf64 hS fun a5 w6 y B ag ah=>(av u (nsr (mv u (lv (rv_len underlying40 u (x.mono B)) (lv (r_m u) ?_)))))))))
 refine nq ?_
 obtain⟨ai,aj,ak⟩:=ob hm
 refine wc_cutg (fun E' w'=>∃k l m o,E'=[(3,V3 k l m)]∧SH w K [] w' o [tail (V3 k l m) 64 3]∧KLe y o∧SliceAt tGDoc o k l m ai) ?_ ?_
 ·refine wc_block ?_
  obtain⟨bb,am,an⟩:=ob aj
  refine qF (fun (ad:Nat) (C:(List GDoc)) E' w'=>∃c d f i,E'=[(3,V3 c d f),(7,V3 A a b),(8,V6 (q0.length:Int)),(9,V6 ((ad:Nat):Int))]∧SH w K [] w' i [tail (V3 c d f) 64 3]∧KLe y i∧SliceAt tGDoc i c d f C) am ⟨a5,0,0,y,u,ah,kr,ag⟩ ?_ ?_
  ·rintro ad C _ ao bc hi37 ap ⟨c,d,f,i,rfl,q,s,D⟩
   refine sr (lv (rv_lss u u) (ns (wc_cond_t u (decide_eq_true (by omega)) (wc_skip (qe_seq (wc_seq (wc_block (sr ?_))))))))
   obtain⟨G,aq,ar⟩:=ob ap
   refine li underlying40 tf64 (x.mono (B.trans s)) aq fun au aw bd ax ay=>?_
   obtain⟨H,I,J,O,R,S,rfl,az,aA,aB⟩:=ax
   have aC:AtK _ au aw [V6 G.Id,V3 H I J,V3 O R S]:=ay
   refine lv (rv_loadS tf64 u q aC u) (al tf64 q fun aD be aE=>?_)
   have aF:SH _ _ _ _ _ [obj aD [V6 0,V3 none 0 0,V3 none 0 0] 64,_]:=aE
   refine lw [V6 G.Id,V3 H I J,V3 O R S] tf64 aF fun bf T=>(nq (wc_region (mv u (lv (rv_loadmS (ds:=[V6 G.Id,V3 H I J,V3 O R S]) tf64 u m0 T u u) ?_))))
   obtain⟨U,aG,aH⟩:=ob ar
   refine lk co133 (ok_impl_cloneDoc F T.enter0 az aA aB aG) ?_
   rintro bg bh ⟨V,W,X,Y,aa,ab,bi,rfl,ac,aI,aJ,aK⟩
   have aL:=(T.c0 ac).t4
   refine lb tGDoc (.agg #[V6 U.Id,V3 V W X,V3 Y aa ab]) [V6 U.Id,V3 V W X,V3 Y aa ab] U underlying40 tf64 ⟨V,W,X,Y,aa,ab,u,aI,aJ,aK⟩ aL fun bj bk bl ae aM aN=>?_
   obtain⟨bm,aO,aP⟩:=ob aH
   refine lp underlying40 tf64 (D.mono (ac.le.trans ae)) aM aO aN.f4 fun aQ aR aS bn aT aU aV aW=>(av u (nb (qg (lv (rv_add_to u u (w64_succ hi37 (SliceAt.max (x.mono B)))) (mv u (wl_nil ?_))))))
   cases oi aP
   exact qd ⟨aQ,aR,aS,aT,u,aW.s,(((s.trans ac.le).trans ae).trans aU),aV⟩
  rintro C _ ao aX ⟨c,d,f,i,rfl,q,s,D⟩
  subst aX
  refine sr (lv (rv_lss u u) (ns (wc_cond_f u (decide_eq_false (by omega)) (wc_exit (qe_then_exit (qe_then_exit (qe_block_eq ?_)))))))
  cases oi an
  exact qd ⟨c,d,f,i,u,q,s,D⟩
 rintro _ bo ⟨k,l,m,o,rfl,aY,bp,aZ⟩
 refine qr (mv u (av u (nq (wc_ret ?_))))
 cases oi ak
 exact ey results86 ⟨k,l,m,o,u,aY,aZ⟩

theorem ok_impl_Seg_put_1 {q0:GEntry}{q1:Str}{q2:GTerm}{r:Bool}(hS:SH w K Z w K [obj c [sv q1] 9,obj d [sv q2.Text,V6 q2.At] 104])(o:q0.Field.length≤maxLen)(q:q0.Term.length≤maxLen)(s:SliceAt tGPost K A a b q0.Posts)(x:q1.length≤maxLen)(y:q2.Text.length≤maxLen)(B:rng64 q2.At)(hm:M.impl_Seg_put_1 F q0 q1 q2=some r):
  Calls prog 135 #[.agg #[sv q0.Field,sv q0.Term,V3 A a b],.pointer (some ⟨c,0,none⟩),.pointer (some ⟨d,0,none⟩)] w fun e w'=>∃K',e= .returned (.bool r)∧SH w K Z w' K' [obj c [sv q1] 9,obj d [sv q2.Text,V6 q2.At] 104]:=by
 rw [M.impl_Seg_put_1] at hm
 refine ci func135 u ntmps135 (sr (bx u hS fun l C m=>?_))
 have i:SH _ _ _ _ _ [obj l [sv q0.Field,sv q0.Term,V3 A a b] 97,_,_]:=m
 refine lv (r_f u) (nr (fl ff97_0 u tf9 m0 i u (lv (rv_loadm1 tf9 u m1 i u) (lv (rv_seql u u) (mv u (bt hm (fun f k=>?_) (fun f k=>?_)))))))
 ·refine lg f (rv_fieldAddr ff97_1 u) (lg f (rv_loadm1 tf9 u m0 i u) (lg f (rv_fieldAddr ff104_0 u) (lg f (rv_loadm1 tf9 u m2 i u) (lg f (rv_seql u u) (lv (rv_pick_t u f u) (av u (nq (wc_ret ?_))))))))
  cases oi k
  exact ey results135 ⟨K,u,i.s⟩
 iterate 5 refine lu f ?_
 refine lv (p_f u f u) (av u (nq (wc_ret ?_)))
 cases oi k
 exact ey results135 ⟨K,u,i.s⟩

theorem ok_slices_IndexFunc_Entry__impl_Seg_put_1 {q0:List GEntry}{q1c0:Str}{q1c1:GTerm}{r:Int}(hS:SH w K Z w K [obj c [sv q1c0] 9,obj d [sv q1c1.Text,V6 q1c1.At] 104])(f:SliceAt tGEntry K A a b q0)(O:q1c0.length≤maxLen)(R:q1c1.Text.length≤maxLen)(S:rng64 q1c1.At)(hm:M.slices_IndexFunc_Entry__impl_Seg_put_1 F q0 q1c0 q1c1=some r):
  Calls prog 134 #[V3 A a b,.func (.func 135) #[] #[.pointer (some ⟨c,0,none⟩),.pointer (some ⟨d,0,none⟩)]] w fun e w'=>∃K',e= .returned (V6 r)∧SH w K Z w' K' [obj c [sv q1c0] 9,obj d [sv q1c1.Text,V6 q1c1.At] 104]∧rng64 r:=by
 rw [M.slices_IndexFunc_Entry__impl_Seg_put_1] at hm
 refine ci func134 u ntmps134 (sr (lv (r_0 u) (nsr (mv u (lv (rv_len underlying41 u f) (lv (r_m u) (nq ?_)))))))
 obtain⟨T,U,i⟩:=ob hm
 refine wc_cutg (IE T w K Z K [] [obj c [sv q1c0] 9,obj d [sv q1c1.Text,V6 q1c1.At] 104]) ?_ ?_
 ·refine wc_block ?_
  obtain⟨aq,V,q⟩:=ob U
  refine qf (fun (s:Nat) (x:Unit)=>IV w K Z K [(0,V3 A a b),(1,.func (.func 135) #[] #[pt c,pt d]),(7,V6 (q0.length:Int)),(8,V6 ((s:Nat):Int))] [obj c [sv q1c0] 9,obj d [sv q1c1.Text,V6 q1c1.At] 104]) V ⟨K,u,hS,kr⟩ ?_ ?_
  ·rintro s x _ W ar hi29 X Y ⟨y,rfl,k,l⟩
   refine sr (lv (rv_lss u u) (ns (wc_cond_t u (decide_eq_true (by omega)) (wc_skip (qe_seq (wc_seq (wc_block (sr (mv u (av u (nr (mv u ?_))))))))))))
   refine mv u (mv u ?_)
   obtain⟨m,aa,ab⟩:=ob X
   refine li underlying41 tf97 (f.mono l) aa fun ac ad au ae af=>?_
   obtain⟨B,C,D,rfl,ag,ah,ai⟩:=ae
   have aj:AtK _ ac ad [sv m.Field,sv m.Term,V3 B C D]:=af
   refine lv (rv_loadS tf97 u k aj u) ?_
   obtain⟨aw,ak,al⟩:=ob ab
   have G:=k.f1.f1
   refine wl_call wn u (rt_callv (vs:=[.agg #[sv m.Field,sv m.Term,V3 B C D]]) (cap:=#[pt c,pt d]) co135 u u) (ok_impl_Seg_put_1 F G.e2 ag ah ai O R S ak) ?_
   rintro ax ay ⟨H,rfl,I⟩
   refine⟨_,u,?_⟩
   have J:=(G.c2 I).t2
   refine nq (wcc al u (fun am o=>?_) (fun am o=>?_))
   ·refine sr (mv u (av u (nq (wc_ret (qe_block_ret (qe_then_ret (qe_then_ret ?_)))))))
    cases oi o
    cases Y _ u
    refine qe_block_ret (qe_then_ret ?_)
    cases oi q
    refine qe_then_ret ?_
    cases oi i
    exact ey results134 ⟨H,u,J,(rng_idx hi29 (SliceAt.max f))⟩
   refine wc_skip (qe_block (qg (lv (rv_add_to u u (w64_succ hi29 (SliceAt.max f))) (mv u (wl_nil ?_)))))
   cases oi o
   exact qd ⟨_,u,H,u,J,(l.trans I.le)⟩
  rintro x _ W an ⟨y,rfl,k,l⟩
  subst an
  refine sr (lv (rv_lss u u) (ns (wc_cond_f u (decide_eq_false (by omega)) (wc_exit (qe_then_exit (qe_then_exit (qe_block_eq ?_)))))))
  cases oi q
  exact qe_mid' ⟨_,y,u,u,k,l⟩ trivial
 rintro _ az ⟨aA,ao,rfl,rfl,ap,aB⟩
 have i:=elim_l i
 refine qr (lv (rv_assign (v:=V6 (-1)) u) (nq (wc_ret ?_)))
 cases oi i
 exact ey results134 ⟨ao,u,ap,(by decide :rng64 (-1))⟩

theorem ok_impl_Seg_put {g:Nat}{a:Option Addr}{n:Nat}{c:Nat}{lay:List ELay}{q0:GSeg}{q1:Str}{q2:GTerm}{q3:Int}{r:GSeg}(aJ:SH w K (List.flatMap Item.gs [obj g [V3 A b d,V3 a n c] 43,pack (segItems 97 153 3 a n c lay)]) w K [obj g [V3 A b d,V3 a n c] 43,pack (segItems 97 153 3 a n c lay)])(aK:SliceAt tGDoc K A b d q0.Docs)(U:LayOk lay q0.Entries)(ap:q1.length≤maxLen)(aq:q2.Text.length≤maxLen)(ag:rng64 q2.At)(aL:rng64 q3)(hm:M.impl_Seg_put F q0 q1 q2 q3=some r):
  Calls prog 87 #[.pointer (some ⟨g,0,none⟩),sv q1,.agg #[sv q2.Text,V6 q2.At],V6 q3] w fun e w'=>∃a_1 n_2 c_3 a_4 n_5 c_6 lay_7 K',e= .returned (.tuple #[])∧SH w K (List.flatMap Item.gs [obj g [V3 A b d,V3 a n c] 43,pack (segItems 97 153 3 a n c lay)]) w' K' [obj g [V3 a_1 n_2 c_3,V3 a_4 n_5 c_6] 43,pack (segItems 97 153 3 a_4 n_5 c_6 lay_7)]∧SliceAt tGDoc K' a_1 n_2 c_3 r.Docs∧LayOk lay_7 r.Entries:=by
 rw [M.impl_Seg_put] at hm
 obtain⟨k,aM,h1⟩:=ob hm
 obtain⟨es,B,h2⟩:=ob h1
 obtain⟨en,ar,h3⟩:=ob h2
 obtain⟨ps,C,h4⟩:=ob h3
 obtain⟨p,ah,h5⟩:=ob h4
 obtain⟨at_,V,h6⟩:=ob h5
 cases oi h6
 have aT:SH w K (List.flatMap Item.gs [obj g [V3 A b d,V3 a n c] 43,pack (segItems 97 153 3 a n c lay)]) w K (segTop 97 a n c lay::((lay).flatMap (ELay.items 153 3)++[obj g [V3 A b d,V3 a n c] 43])):=(aJ.perm (List.Perm.swap _ _ _)).unpack
 have aU:SH w K (List.flatMap Item.gs [obj g [V3 A b d,V3 a n c] 43,pack (segItems 97 153 3 a n c lay)]) w K (obj g [V3 A b d,V3 a n c] 43::segTop 97 a n c lay::(lay).flatMap (ELay.items 153 3)):=aT.perm (by rw [←List.cons_append];exact List.perm_append_singleton _ _ |>.symm)
 generalize hMM:(List.flatMap Item.gs [obj g [V3 A b d,V3 a n c] 43,pack (segItems 97 153 3 a n c lay)])=MM at *
 refine ci func87 rfl ntmps87 (sr (bx rfl aU fun i w5 hS3'=>?_))
 have aW:SH w K MM w5 K (obj i [sv q1] 9::obj g [V3 A b d,V3 a n c] 43::segTop 97 a n c lay::(lay).flatMap (ELay.items 153 3)):=hS3'
 refine bx rfl aW fun f w6 hS4'=>?_
 have au:SH w K MM w6 K (obj f [sv q2.Text,V6 q2.At] 104::obj i [sv q1] 9::obj g [V3 A b d,V3 a n c] 43::segTop 97 a n c lay::(lay).flatMap (ELay.items 153 3)):=hS4'
 refine nr (mv rfl (lv (rv_nilCheck rfl) (fl ff43_1 rfl tf41 m2 au rfl (lv (rv_makeFunc (vs:=[pt i,pt f]) rfl) ?_))))
 obtain⟨gs,hgs⟩: ∃gs,gs=(segTop 97 a n c lay::(lay).flatMap (ELay.items 153 3)).flatMap Item.gs:=⟨_,rfl⟩
 have s:SH w K MM w6 K ([obj i [sv q1] 9,obj f [sv q2.Text,V6 q2.At] 104]++(obj g [V3 A b d,V3 a n c] 43::segTop 97 a n c lay::(lay).flatMap (ELay.items 153 3))):=au.perm (List.Perm.swap _ _ _)
 have hnd:=s.nodup
 rw [List.flatMap_append,List.nodup_append,List.flatMap_cons] at hnd
 have hg56:i∉gs∧f∉gs:=by
  rw [hgs]
  exact⟨fun hb=>hnd.2.2 i (by simp [obj,Go.Fk.one]) i (List.mem_append_right _ hb) rfl,fun hb=>hnd.2.2 f (by simp [obj,Go.Fk.one]) f (List.mem_append_right _ hb) rfl⟩
 have hseg:=seg_lent (TE:=97) (TP:=153) (TI:=3) (gs:=gs) s (fun it hi=>List.mem_append_right _ (List.mem_cons_of_mem _ hi)) (fun it hi b hb=>by rw [hgs];exact List.mem_flatMap.2 ⟨it,hi,hb⟩) U
 have hlnd:=s.lend (Kin:=seeK K w6 gs) (see_holds s.holds) (fun it hi=>by
  rcases List.mem_cons.1 hi with rfl | hi
  ·exact obj_see (s.items _ (List.mem_cons_self ..)) hg56.1
  rcases List.mem_singleton.1 hi with rfl
  exact obj_see (s.items _ (List.mem_cons_of_mem _ (List.mem_cons_self ..))) hg56.2)
 refine lk co134 (ok_slices_IndexFunc_Entry__impl_Seg_put_1 F hlnd hseg.1 ap aq ag aM) ?_
 rintro e7 w7 ⟨K7,rfl,hS7',bz⟩
 have aX:SH w K MM w7 K ([obj i [sv q1] 9,obj f [sv q2.Text,V6 q2.At] 104]++(obj g [V3 A b d,V3 a n c] 43::segTop 97 a n c lay::(lay).flatMap (ELay.items 153 3))):=s.lent (see_le s.holds) hS7' rfl (fun it hi=>by
  rcases List.mem_cons.1 hi with rfl | hi
  ·exact obj_on (hS7'.items _ (List.mem_cons_self ..)) ((see_le s.holds).trans hS7'.le)
  rcases List.mem_singleton.1 hi with rfl
  exact obj_on (hS7'.items _ (List.mem_cons_of_mem _ (List.mem_cons_self ..))) ((see_le s.holds).trans hS7'.le))
 have aj:SH w K MM w7 K (obj f [sv q2.Text,V6 q2.At] 104::obj i [sv q1] 9::obj g [V3 A b d,V3 a n c] 43::segTop 97 a n c lay::(lay).flatMap (ELay.items 153 3)):=aX.perm (List.Perm.swap _ _ _)
 refine av rfl (nsr (mv rfl (lv (rv_lss rfl rfl) (nq (wc_cutg (fun E' w'=>∃a2 l m lay2 D,E'=[(0,pt g),(3,V6 q3),(6,pt f),(8,V6 (cond (decide (k<0)) (q0.Entries.length:Int) k))]∧SH w K MM w' D (obj f [sv q2.Text,V6 q2.At] 104::obj i [sv q1] 9::obj g [V3 A b d,V3 a2 l m] 43::segTop 97 a2 l m lay2::(lay2).flatMap (ELay.items 153 3))∧KLe K D∧LayOk lay2 es) ?_ ?_)))))
 ·refine wc_cond rfl (fun hb=>?_) (fun hb=>?_)
  ·rw [hb] at B ⊢
   simp only [cond_true] at B ⊢
   refine sr (mv rfl (lv (rv_nilCheck rfl) (fl ff43_1 rfl tf41 m2 aj rfl (lv (rv_lenRow underlying41 rfl hseg.2) (av rfl (nq ?_))))))
   have G:=aj.drew
   refine wh1 (fun w'=>Holds K w'∧HasObj i [sv q1] w'∧HasObj f [sv q2.Text,V6 q2.At] w') (fun w'=>HasObj g [V3 A b d,V3 a n c] w') 13 [(4,10),(10,13)] mixed ⟨G.hasK kr,G.hasObj m1,G.hasObj m0⟩ (fun _=>G.hasObj (.tail _ (.tail _ (.head _)))) (gt (rv_move rfl) (gt (rv_move rfl) (gt (rv_nilCheck rfl) (gt (rv_fieldAddr ff43_1 rfl) (gf (fun _ h=>rh_loadm1 tf41 rfl rfl h) (gh (fun _ h=>rh_loadm1 tf9 rfl rfl h.2.1) (gt (rv_fieldAddr ff104_0 rfl) (gh (fun _ h=>rh_loadm1 tf9 rfl rfl h.2.2) (gt (rv_build (cs:=#[sv q1,sv q2.Text,V3 none 0 0]) sp97 tf97 rfl (by kernel_rfl)) ?_)))))))))
   refine gn (wl_buildSlice (t:=tRaw 3) (n:=1) (pv:=[(0,.agg #[sv q1,sv q2.Text,V3 none 0 0])]) (cs:=[sv q1,sv q2.Text,V3 none 0 0]) (xs:=[([sv q1,sv q2.Text,V3 none 0 0]:List Value)]) wn rfl underlying41 tf97 rfl rfl rfl (by kernel_rfl) rfl rfl (lit_cons (t:=tRaw 3) (u:=.agg #[sv q1,sv q2.Text,V3 none 0 0]) (z:=([sv q1,sv q2.Text,V3 none 0 0]:List Value)) ⟨rfl,rfl,by simp [Value.oneCell',sv]⟩ lit_nil) G fun a9 w9 K9 W ay hS9'=>?_)
   obtain⟨b9,o9,rfl⟩:=raw_addr ay
   have aZ:=raw_lit ay
   have H:=hS9'.drop
   refine wl_nil (qh ⟨H.hasK W,H.hasObj m1,H.hasObj m0⟩ (fun _=>H.hasObj (.tail _ (.tail _ (.head _)))) ?_)
   unfold catL at B
   split at B
   case isFalse=>cases B
   rename_i hbd
   cases B
   have hnl:n=q0.Entries.length:=hseg.2
   have hS9t:SH w K MM w9 K9 (rowI (V3 a n c) (lay.flatMap ELay.cells) 97 3::(obj f [sv q2.Text,V6 q2.At] 104::obj i [sv q1] 9::obj g [V3 A b d,V3 a n c] 43::(lay).flatMap (ELay.items 153 3))):=H.perm (List.perm_middle (l₁:=[_,_,_])).symm
   refine gn ?_
   have hcl9:(lay.flatMap ELay.cells).length=n*3:=by rw [sg_cells3,←sg_top_len hS9t (List.mem_cons_self ..)]
   refine wl_appendI wn rfl underlying41 tf97 rfl rfl rfl (by decide) rfl aZ (by simp [Value.oneCell',sv]) hcl9 (by simp at hbd;omega) (by simp at hbd;omega) hS9t fun X Y bD I=>(wl_nil (qh ⟨I.hasK W,I.hasObj m2,I.hasObj m1⟩ (fun _=>I.hasObj (.tail _ (.tail _ (.tail _ (.head _))))) (gt (rv_nilCheck rfl) (gt (rv_fieldAddr ff43_1 rfl) (gn (ls [V3 A b d,V3 (some ⟨X,0,none⟩) (n+1) Y] (V3 (some ⟨X,0,none⟩) (n+1) Y) tf41 I.f3 fun ba aa=>(wl_nil (qh ⟨aa.hasK W,aa.hasObj m3,aa.hasObj m2⟩ (fun h=>by cases h) (gd' ?_)))))))))
   have bb:=SH.rowNil aa 153 2
   have bc:SH w K MM ba K9 (obj f [sv q2.Text,V6 q2.At] 104::obj i [sv q1] 9::obj g [V3 A b d,V3 (some ⟨X,0,none⟩) (n+1) Y] 43::segTop 97 (some ⟨X,0,none⟩) (n+1) Y (lay++[ELay.mk q1 q2.Text [] none 0 0])::((lay++[ELay.mk q1 q2.Text [] none 0 0])).flatMap (ELay.items 153 3)):=by
    have e1:(lay++[ELay.mk q1 q2.Text [] none 0 0]).flatMap ELay.cells=lay.flatMap ELay.cells++[sv q1,sv q2.Text,V3 none 0 0]:=by rw [List.flatMap_append];rfl
    have e2:((lay++[ELay.mk q1 q2.Text [] none 0 0])).flatMap (ELay.items 153 3)=(lay).flatMap (ELay.items 153 3)++[rowI (V3 none 0 0) [] 153 2]:=by rw [List.flatMap_append];rfl
    unfold segTop
    rw [e1,e2]
    exact bb.perm ((show List.Perm ((_::_::_::_::(lay).flatMap (ELay.items 153 3))++[_]) _ from List.perm_append_singleton _ _).trans (.cons _ (List.Perm.append_right ((lay).flatMap (ELay.items 153 3)) (List.perm_append_comm (l₁:=[_,_]) (l₂:=[_,_])))))
   refine qe_mid' ⟨_,_,_,_,K9,rfl,bc,W,fun x hx=>?_,?_⟩ ⟨rfl,rfl,rfl,rfl,trivial⟩
   ·rcases List.mem_append.1 hx with hx | hx
    ·exact U.1 x hx
    rcases List.mem_singleton.1 hx with rfl
    exact⟨ap,aq,by simp⟩
   rw [List.map_append,U.2];rfl
  rw [hb] at B ⊢
  simp only [cond_false] at B ⊢
  cases oi B
  exact wc_skip (qd ⟨a,n,c,lay,K,rfl,aj,.refl _,U⟩)
 rintro _ az ⟨a2,l,m,lay2,D,rfl,am,aA,hlay2⟩
 generalize hkk:(cond (decide (k<0)) (q0.Entries.length:Int) k)=kk at *
 obtain⟨hok2,hes⟩:=hlay2
 obtain⟨el,aB,hel⟩:=sg_getI_map (hes▸ar:getI (lay2.map ELay.x) kk=some en)
 obtain⟨pre,post,hsplit,hpre,bE⟩:=sg_split aB
 have hn2:=sg_top_len am m3
 have hn2e:l=es.length:=by rw [←hes,List.length_map];exact hn2
 obtain⟨gE,rfl⟩:=SH.rowI_at am m3 hn2 aB
 obtain⟨R,hR⟩: ∃R,R=((pre).flatMap (ELay.items 153 3)++(post).flatMap (ELay.items 153 3)):=⟨_,rfl⟩
 have y:SH w K MM az D (obj f [sv q2.Text,V6 q2.At] 104::obj i [sv q1] 9::obj g [V3 A b d,V3 (some ⟨gE,0,none⟩) l m] 43::segTop 97 (some ⟨gE,0,none⟩) l m (pre++el::post)::ELay.row 153 el::(el.posts.map (PLay.item 3)++R)):=by
  rw [hR]
  have J:=am
  rw [hsplit] at J
  exact J.perm ((List.Perm.append_left [_,_,_] (seg_focus (TE:=97) (TP:=153) (TI:=3))).symm)
 have helok:el.ok:=hok2 el (by rw [hsplit];simp)
 have hnP:el.n=el.posts.length:=sg_row_len y m4
 have hhead:=sg_head_at (pre:=pre) (post:=post) (e:=el) (o:=kk.toNat*3+2) (by rw [hpre])
 have hpl:el.posts.length≤maxLen:=rowI_max y m4 hnP
 have henp:en.Posts=el.posts.map PLay.x:=by rw [←hel];rfl
 refine qr (mv rfl (lv (rv_nilCheck rfl) (fl ff43_1 rfl tf41 m2 y rfl (mv rfl (lv (rv_indexI (t:=tGEntry) underlying41 tf97 rfl rfl rfl hn2e ar) (av rfl (nr (mv rfl (lv (rv_nilCheck rfl) ?_)))))))))
 refine fa ff97_2 rfl (lv (rh_loadI1 tf95 rfl rfl hhead rfl (y.hasRow (.tail _ (.tail _ (.tail _ (.head _)))))) (lv (rv_lenRow underlying95 rfl hnP) (lv (rv_sub rfl rfl) (av rfl (ns (wc_seq (wc_cutg (fun E' w'=>E'=[(3,V6 q3),(6,pt f),(9,.pointer (some ⟨gE,kk.toNat*tGEntry.size,none⟩)),(10,V6 (w64 ((el.posts.length:Int)-1))),(62,.bool (needPost en.Posts q3))]∧w'=az) ?_ ?_)))))))
 ·refine wc_region (mv rfl (lv (rv_lss rfl rfl) (mv rfl ?_)))
  rcases List.eq_nil_or_concat el.posts with hnil | ⟨ps0,p0,hcat⟩
  ·have hb:decide (w64 ((el.posts.length:Int)-1)<0)=true:=by rw [sg_pred hpl,hnil];rfl
   have hnp:needPost en.Posts q3=true:=by rw [henp,hnil];rfl
   rw [hnp]
   iterate 10 refine lu hb ?_
   refine lv (p_t rfl hb rfl) (wl_nil ?_)
   exact qd ⟨rfl,rfl⟩
  rw [List.concat_eq_append] at hcat
  have hlp:el.posts.length=ps0.length+1:=by rw [hcat];simp
  have hw:w64 ((el.posts.length:Int)-1)=(ps0.length:Int):=by rw [sg_pred hpl,hlp];omega
  have hb:decide (w64 ((el.posts.length:Int)-1)<0)=false:=by rw [hw];exact decide_eq_false (by omega)
  have hnp:needPost en.Posts q3= !(p0.doc==q3):=by rw [henp,hcat,List.map_append];simp [needPost,PLay.x]
  rw [hnp]
  have hzp:getI en.Posts (w64 ((el.posts.length:Int)-1))=some p0.x:=by rw [henp,hcat,List.map_append];exact sg_last (by rw [←hcat,hw];simp)
  have hnPe:el.n=en.Posts.length:=by rw [henp,List.length_map];exact hnP
  obtain⟨gP,hgP⟩:=SH.rowI_at y m4 hnPe hzp
  have hdoc:(el.posts.flatMap PLay.cells)[(w64 ((el.posts.length:Int)-1)).toNat*2+0]? =some (V6 p0.doc):=by rw [hcat];exact sg_post_at (k:=0) (by rw [←hcat,hw];simp)
  refine lg hb (rv_move rfl) (lg hb (rv_nilCheck rfl) (lg hb (rv_fieldAddr ff97_2 rfl) (lg hb (rh_loadI1 tf95 rfl rfl hhead rfl (y.hasRow (.tail _ (.tail _ (.tail _ (.head _)))))) (lg hb (rv_move rfl) (lg hb (rv_indexI (t:=tGPost) underlying95 tf153 rfl rfl hgP hnPe hzp) (lg hb (rv_fieldAddr ff153_0 rfl) (lg hb (rh_loadI1 tf3 rfl rfl hdoc hgP (y.hasRow (.tail _ (.tail _ (.tail _ (.tail _ (.head _))))))) (lg hb (rv_move rfl) (lg hb (rv_neq rfl rfl) ?_)))))))))
  refine lv (rv_pick_f rfl hb rfl) (wl_nil ?_)
  exact qd ⟨rfl,rfl⟩
 rintro _ _ ⟨rfl,rfl⟩
 refine qe_seq (wc_cutg (fun E' w'=>∃el2 ps0 pl K3,E'=[(6,pt f),(9,.pointer (some ⟨gE,kk.toNat*tGEntry.size,none⟩)),(10,V6 (ps0.length:Int))]∧SH w K MM w' K3 (obj f [sv q2.Text,V6 q2.At] 104::obj i [sv q1] 9::obj g [V3 A b d,V3 (some ⟨gE,0,none⟩) l m] 43::segTop 97 (some ⟨gE,0,none⟩) l m (pre++el2::post)::ELay.row 153 el2::(pl.item 3::(ps0.map (PLay.item 3)++R)))∧KLe K K3∧el2.ok∧el2.field=el.field∧el2.term=el.term∧el2.posts=ps0++[pl]∧ps=el2.posts.map PLay.x) ?_ ?_)
 ·refine wc_cond rfl (fun hb=>?_) (fun hb=>?_)
  ·rw [hb] at C
   simp only [cond_true] at C
   refine sr (mv rfl (mv rfl (lv (rv_nilCheck rfl) (fa ff97_2 rfl (lv (rh_loadI1 tf95 rfl rfl hhead rfl (y.hasRow (.tail _ (.tail _ (.tail _ (.head _)))))) (mv rfl (lv (rv_build (cs:=#[V6 q3,V3 none 0 0]) sp153 tf153 rfl (by kernel_rfl)) (wl_buildSlice (t:=tRaw 2) (n:=1) (pv:=[(0,.agg #[V6 q3,V3 none 0 0])]) (cs:=[V6 q3,V3 none 0 0]) (xs:=[([V6 q3,V3 none 0 0]:List Value)]) wn rfl underlying95 tf153 rfl rfl rfl (by kernel_rfl) rfl rfl (lit_cons (t:=tRaw 2) (u:=.agg #[V6 q3,V3 none 0 0]) (z:=([V6 q3,V3 none 0 0]:List Value)) ⟨rfl,rfl,by simp [Value.oneCell']⟩ lit_nil) y fun bF bG aC bd aD hS22'=>?_))))))))
   obtain⟨bH,bI,rfl⟩:=raw_addr aD
   have be:=raw_lit aD
   have bf:=hS22'.drop
   unfold catL at C
   split at C
   case isFalse=>cases C
   rename_i hbd
   cases C
   have hbd2:(el.n+1)*32≤140737488355328:=by rw [henp] at hbd;simp at hbd;rw [hnP];exact hbd
   refine wl_appendI wn rfl underlying95 tf153 rfl rfl rfl (by decide) rfl be (by simp [Value.oneCell']) (by rw [sg_cells2,hnP]) (by omega) hbd2 bf.f4 fun aE c24 bJ bg=>(lv (rv_nilCheck rfl) (fa ff97_2 rfl (wl_storeC wn tf95 rfl rfl rfl bg.f4 (by have:=(List.getElem?_eq_some_iff.1 hhead).1;exact this) ?_)))
   intro bh bi
   refine nq (wc_region (mv rfl (lv (rv_add rfl rfl) (lv (rv_as rfl (congrArg (Value.int .i64) (sg_back hpl))) (wl_nil ?_)))))
   obtain⟨el2,hel2⟩: ∃el2:ELay,el2=⟨el.field,el.term,el.posts++[⟨q3,[],none,0,0⟩],some ⟨aE,0,none⟩,el.n+1,c24⟩:=⟨_,rfl⟩
   have hset:=sg_head_set (pre:=pre) (post:=post) (e:=el) (e':=el2) (o:=kk.toNat*3+2) (by rw [hpre]) (by rw [hel2]) (by rw [hel2])
   have bj:SH w K MM bh aC (rowI (V3 (some ⟨gE,0,none⟩) l m) ((pre++el2::post).flatMap ELay.cells) 97 3::ELay.row 153 el2::obj f [sv q2.Text,V6 q2.At] 104::obj i [sv q1] 9::obj g [V3 A b d,V3 (some ⟨gE,0,none⟩) l m] 43::(el.posts.map (PLay.item 3)++R)):=by
    have e1:el2.posts.flatMap PLay.cells=el.posts.flatMap PLay.cells++[V6 q3,V3 none 0 0]:=by rw [hel2,List.flatMap_append];rfl
    have e2:el2.a=some ⟨aE,0,none⟩:=by rw [hel2]
    have e3:el2.n=el.n+1:=by rw [hel2]
    have e4:el2.c=c24:=by rw [hel2]
    rw [←hset]
    unfold ELay.row
    rw [e1,e2,e3,e4]
    exact bi
   have bk:=SH.rowNil bj 3 1
   refine qe_mid' ⟨el2,el.posts,⟨q3,[],none,0,0⟩,aC,rfl,bk.perm ?_,aA.trans bd,?_,by rw [hel2],by rw [hel2],by rw [hel2],?_⟩ ⟨rfl,rfl,rfl,trivial⟩
   ·exact(List.Perm.append_left [_,_,_,_,_] (List.Perm.refl _)).trans ((List.perm_middle (l₁:=[_,_,_,_,_])).trans (.cons _ (List.Perm.append_right _ (List.perm_append_comm (l₁:=[_,_,_]) (l₂:=[_,_])))))
   ·rw [hel2]
    refine⟨helok.1,helok.2.1,fun q hq=>?_⟩
    rcases List.mem_append.1 hq with hq | hq
    ·exact helok.2.2 q hq
    rcases List.mem_singleton.1 hq with rfl
    exact⟨aL,by simp⟩
   rw [hel2,henp,List.map_append];rfl
  rw [hb] at C
  simp only [cond_false] at C
  cases oi C
  refine wc_skip ?_
  rcases List.eq_nil_or_concat el.posts with hnil | ⟨ps0,p0,hcat⟩
  ·rw [henp,hnil] at hb;cases hb
  rw [List.concat_eq_append] at hcat
  have hlp:el.posts.length=ps0.length+1:=by rw [hcat];simp
  have hw:w64 ((el.posts.length:Int)-1)=(ps0.length:Int):=by rw [sg_pred hpl,hlp];omega
  rw [hw]
  refine qe_mid' ⟨el,ps0,p0,D,rfl,?_,aA,helok,rfl,rfl,hcat,henp⟩ ⟨rfl,rfl,rfl,trivial⟩
  have J:=y
  rw [hcat] at J
  exact J.perm (List.Perm.append_left [_,_,_,_,_] (post_focus (TI:=3)).symm)
 rintro _ bK ⟨el2,ps0,pl,K3,rfl,ac,bl,hel2ok,hf2,ht2,hcat2,hps⟩
 refine qe_seq ?_
 have hpx:p=pl.x:=by rw [hps,hcat2,List.map_append] at ah;simp at ah;exact ah.symm
 have hn30:el2.n=el2.posts.length:=sg_row_len ac m4
 have bm:getI el2.posts (ps0.length:Int)=some pl:=by rw [hcat2];exact sg_last rfl
 obtain⟨gP,hgP⟩:=SH.rowI_at ac m4 hn30 bm
 have hpn:pl.n=pl.at_.length:=sg_item_len ac m5
 have hhead2:=sg_head_at (pre:=pre) (post:=post) (e:=el2) (o:=kk.toNat*3+2) (by rw [hpre])
 have aF:getI (el2.posts.map PLay.x) (ps0.length:Int)=some pl.x:=by rw [hcat2,List.map_append];exact sg_last (by simp)
 have hn31:el2.n=(el2.posts.map PLay.x).length:=by rw [List.length_map];exact hn30
 have hat:(el2.posts.flatMap PLay.cells)[(ps0.length:Int).toNat*2+1]? =some (V3 pl.a pl.n pl.c):=by rw [hcat2];exact sg_post_at (k:=1) (by simp)
 have O:=ac.drew
 refine wh1 (fun w'=>Holds K3 w'∧HasRow (some ⟨gE,0,none⟩) ((pre++el2::post).flatMap ELay.cells) w'∧HasObj f [sv q2.Text,V6 q2.At] w') (fun w'=>HasRow el2.a (el2.posts.flatMap PLay.cells) w') 19 [(12,16),(16,19)] mixed ⟨O.hasK kr,O.hasRow m3,O.hasObj m0⟩ (fun _=>O.hasRow (.tail _ (.tail _ (.tail _ (.tail _ (.head _)))))) (gt (rv_move rfl) (gt (rv_nilCheck rfl) (gt (rv_fieldAddr ff97_2 rfl) (gh (fun _ h=>rh_loadI1 tf95 rfl rfl hhead2 rfl h.2.1) (gt (rv_move rfl) (gt (rv_move rfl) (gt (rv_nilCheck rfl) (gt (rv_fieldAddr ff97_2 rfl) (gh (fun _ h=>rh_loadI1 tf95 rfl rfl hhead2 rfl h.2.1) ?_)))))))))
 refine gt (rv_move rfl) (gt (rv_indexI (t:=tGPost) underlying95 tf153 rfl rfl hgP hn31 aF) (gt (rv_fieldAddr ff153_1 rfl) (gf (fun _ h=>rh_loadI1 tf30 rfl rfl hat hgP h) (gt (rv_fieldAddr ff104_1 rfl) (gh (fun _ h=>rh_loadm1 tf3 rfl rfl h.2.2) (gn (lb tInt (V6 q2.At) [V6 q2.At] q2.At underlying30 tf3 ⟨rfl,ag⟩ O fun bL bM ad ae aG hS35'=>?_)))))))
 obtain⟨bN,bO,rfl⟩:=sg_addr aG
 have bn:=int_lit aG
 have S:=hS35'.drop
 refine wl_nil (qh ⟨S.hasK ae,S.hasRow m3,S.hasObj m0⟩ (fun _=>S.hasRow (.tail _ (.tail _ (.tail _ (.tail _ (.head _)))))) (gn ?_))
 unfold catL at V
 split at V
 case isFalse=>cases V
 rename_i hbd
 cases V
 have hbd2:(pl.n+1)*8≤140737488355328:=by rw [hpx] at hbd;simp [PLay.x] at hbd;rw [hpn];exact hbd
 refine wl_appendI wn rfl underlying30 tf3 rfl rfl rfl (by decide) rfl bn (by simp [Value.oneCell']) (by rw [List.length_map,hpn,Nat.mul_one]) (by omega) hbd2 S.f5 fun aH c37 bP T=>(wl_nil (qh ⟨T.hasK ae,T.hasRow m4,T.hasObj m1⟩ (fun _=>T.hasRow (.tail _ (.tail _ (.tail _ (.tail _ (.tail _ (.head _))))))) (gt (rv_indexI (t:=tGPost) underlying95 tf153 rfl rfl hgP hn31 aF) (gt (rv_fieldAddr ff153_1 rfl) (gn ?_)))))
 obtain⟨fl2,tm2,po2,a2',m2',c2'⟩:=el2
 simp only at hgP hat hcat2 hf2 ht2 hn30
 subst hgP
 refine wl_storeC wn tf30 rfl rfl rfl T.f5 (by have:=(List.getElem?_eq_some_iff.1 hat).1;exact this) ?_
 intro ao af
 refine wl_nil (qh ⟨af.hasK ae,af.hasRow m5,af.hasObj m2⟩ (fun h=>by cases h) (gd' ?_))
 subst hR
 subst hcat2
 obtain⟨pl2,hpl2⟩: ∃pl2:PLay,pl2=⟨pl.doc,pl.at_++[q2.At],some ⟨aH,0,none⟩,pl.n+1,c37⟩:=⟨_,rfl⟩
 obtain⟨el3,hel3⟩: ∃el3:ELay,el3=⟨fl2,tm2,ps0++[pl2],some ⟨gP,0,none⟩,m2',c2'⟩:=⟨_,rfl⟩
 have bo:SH w K MM ao ad (ELay.row 153 el3::pl2.item 3::obj f [sv q2.Text,V6 q2.At] 104::obj i [sv q1] 9::obj g [V3 A b d,V3 (some ⟨gE,0,none⟩) l m] 43::segTop 97 (some ⟨gE,0,none⟩) l m (pre++el3::post)::(ps0.map (PLay.item 3)++((pre).flatMap (ELay.items 153 3)++(post).flatMap (ELay.items 153 3)))):=by
  have e1:=sg_post_set (ps:=ps0) (p:=pl) (p':=pl2) (o:=(ps0.length:Int).toNat*2+1) (by simp) (by rw [hpl2])
  have e2:pl2.a=some ⟨aH,0,none⟩:=by rw [hpl2]
  have e3:pl2.n=pl.n+1:=by rw [hpl2]
  have e4:pl2.c=c37:=by rw [hpl2]
  have e5:pl2.at_.map intC=pl.at_.map intC++[V6 q2.At]:=by rw [hpl2,List.map_append];rfl
  have e6:(pre++el3::post).flatMap ELay.cells=(pre++⟨fl2,tm2,ps0++[pl],some ⟨gP,0,none⟩,m2',c2'⟩::post).flatMap ELay.cells:=by rw [hel3,List.flatMap_append,List.flatMap_append,List.flatMap_cons,List.flatMap_cons];rfl
  have e7:ELay.row 153 el3=rowI (V3 (some ⟨gP,0,none⟩) m2' c2') ((ps0++[pl2]).flatMap PLay.cells) 153 2:=by rw [hel3];rfl
  rw [e7,←e1]
  unfold segTop
  rw [e6]
  show SH w K MM ao ad (_::rowI (V3 pl2.a pl2.n pl2.c) (pl2.at_.map intC) 3 1::_)
  rw [e2,e3,e4,e5]
  exact af
 have br:=bo.sublist (.cons_cons _ (.cons_cons _ (.cons _ (.cons _ (List.Sublist.refl _)))))
 have hpo3:el3.posts=ps0++[pl2]:=by rw [hel3]
 have bs:SH w K MM ao ad (segItems 97 153 3 (some ⟨gE,0,none⟩) l m (pre++el3::post)++[obj g [V3 A b d,V3 (some ⟨gE,0,none⟩) l m] 43]):=by
  refine br.perm ((List.perm_append_singleton _ _).trans ((List.Perm.cons _ (seg_focus (TE:=97) (TP:=153) (TI:=3))).trans ?_))
  rw [hpo3]
  exact(List.Perm.append_left [_,_,_] (post_focus (TI:=3))).trans (List.Perm.append_right _ (List.perm_append_comm (l₁:=[_,_]) (l₂:=[_,_])))
 have bu:=bs.packUp.perm (List.Perm.swap _ _ _)
 refine qe_ret_normal (qe_ret (vs:=[]) results87 trivial ⟨A,b,d,some ⟨gE,0,none⟩,l,m,pre++el3::post,ad,rfl,bu,aK.mono (bl.trans ae),?_,?_⟩)
 ·intro x hx
  rw [hsplit] at hok2
  rcases List.mem_append.1 hx with hx | hx
  ·exact hok2 x (List.mem_append_left _ hx)
  rcases List.mem_cons.1 hx with rfl | hx
  ·rw [hel3,hpl2]
   refine⟨hel2ok.1,hel2ok.2.1,fun q hq=>?_⟩
   rcases List.mem_append.1 hq with hq | hq
   ·exact hel2ok.2.2 q (List.mem_append_left _ hq)
   rcases List.mem_singleton.1 hq with rfl
   have h8:=hel2ok.2.2 pl (List.mem_append_right _ (List.mem_singleton.2 rfl))
   refine⟨h8.1,fun z hz=>?_⟩
   rcases List.mem_append.1 hz with hz | hz
   ·exact h8.2 z hz
   rcases List.mem_singleton.1 hz with rfl
   exact ag
  exact hok2 x (List.mem_append_right _ (List.mem_cons_of_mem _ hx))
 show _=es.set kk.toNat _
 rw [←hes,hsplit,List.map_append,List.map_cons,List.map_append,List.map_cons,List.set_append_right _ _ (by rw [List.length_map,hpre];exact Nat.le_refl _),List.length_map,hpre,Nat.sub_self,List.set_cons_zero]
 have e1:el3.x=GEntry.mk en.Field en.Term (ps.dropLast++[GPost.mk p.Doc (p.At++[q2.At])]):=by
  rw [hel3,hps,hpx,hpl2,←hel]
  simp [ELay.x,PLay.x,hf2,ht2]
 rw [e1]

theorem ok_cmp_Or_int {q0:List Int}{r:Int}(hS:SH w K [] w K [])(k:SliceAt tInt K A a b q0)(hm:M.cmp_Or_int F q0=some r):
  Calls prog 90 #[V3 A a b] w (R_i w K r):=by
 rw [M.cmp_Or_int] at hm
 refine ci func90 u ntmps90 (sr (lv (r_0 u) (nr (lv (r_0 u) (nsr (mv u (lv (rv_len underlying30 u k) (lv (r_m u) (nq ?_)))))))))
 obtain⟨s,x,d⟩:=ob hm
 refine wc_cutg (IE s w K [] K [(3,V6 0)] []) ?_ ?_
 ·refine wc_block ?_
  obtain⟨aa,y,m⟩:=ob x
  refine qf (fun (o:Nat) (q:Unit)=>IV w K [] K [(3,V6 0),(6,V3 A a b),(7,V6 (q0.length:Int)),(8,V6 ((o:Nat):Int))] []) y ⟨K,u,hS,kr⟩ ?_ ?_
  ·rintro o q _ B ab hi23 C D ⟨f,rfl,c,i⟩
   refine sr (lv (rv_lss u u) (ns (wc_cond_t u (decide_eq_true (by omega)) (wc_skip (qe_seq (wc_seq (wc_block (sr ?_))))))))
   obtain⟨G,H,I⟩:=ob C
   refine li underlying30 tf3 (k.mono i) H fun J O ac R S=>?_
   obtain⟨rfl,T⟩:=R
   have U:AtK _ J O [V6 G]:=S
   refine lv (rv_load1 tf3 u c (U 0 _ u)) (av u (nr (mv u (mv u (lv (rv_neq u u) (nq (wcc I u (fun V l=>?_) (fun V l=>?_))))))))
   ·refine sr (mv u (av u (nq (wc_ret (qe_block_ret (qe_then_ret (qe_then_ret ?_)))))))
    cases oi l
    cases D _ u
    refine qe_block_ret (qe_then_ret ?_)
    cases oi m
    refine qe_then_ret ?_
    cases oi d
    exact ey results90 ⟨f,u,c,T⟩
   refine wc_skip (qe_block (qg (lv (rv_add_to u u (w64_succ hi23 (SliceAt.max k))) (mv u (wl_nil ?_)))))
   cases oi l
   exact qd ⟨_,u,f,u,c,i⟩
  rintro q _ B W ⟨f,rfl,c,i⟩
  subst W
  refine sr (lv (rv_lss u u) (ns (wc_cond_f u (decide_eq_false (by omega)) (wc_exit (qe_then_exit (qe_then_exit (qe_block_eq ?_)))))))
  cases oi m
  exact qd ⟨_,f,u,u,c,i⟩
 rintro _ ad ⟨s8,X,rfl,rfl,Y,af⟩
 have d:=elim_l d
 refine qr (mv u (av u (nq (wc_ret ?_))))
 cases oi d
 exact ey results90 ⟨X,u,Y,d_0⟩

theorem ok_cmp_isNaN_string {q0:Str}{r:Bool}(hS:SH w K [] w K [])(a:q0.length≤maxLen)(hm:M.cmp_isNaN_string F q0=some r):
  Calls prog 138 #[sv q0] w (R_b w K r):=by
 rw [M.cmp_isNaN_string] at hm
 refine ci func138 u ntmps138 (sr (lv (r_f u) (nr (mv u (mv u (lv (rv_sneq u u) (av u (nq (wc_ret ?_)))))))))
 cases oi hm
 exact ey results138 ⟨K,u,hS⟩
end Go.Proofs.YtpdfkjjmcnhakaaGreatDoor
