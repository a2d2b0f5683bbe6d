/-
 Walks of the functions. Printed by gen.py.
-/
import Derived.Test.YtpjefkdclnmlfaaGreatWalkA2
set_option linter.unusedVariables false
set_option linter.unusedSectionVars false
set_option maxRecDepth 100000
namespace Go.Proofs.YtpjefkdclnmlfaaGreat
set_option maxHeartbeats 4000000
open Go Go.Fk Go.RowKit Tryz
variable (F:Nat){w:World}{K:KMap}{Z:List Nat}{g1 g2 g3:Nat}{A B C D G H I J O R S T:Option Addr}{a b c d f i k l m n o p q s v x y aa ab ac ad ae af ag:Nat}
variable [dr:Dr]

theorem ok_impl_TextOk {q0:Str}{r:Bool}(hS:SH w K [] w K [])(y:q0.length≤maxLen)(hm:M.impl_TextOk F q0=some r):
  Calls prog 148 #[sv q0] w (R_b w K r):=by
 rw [M.impl_TextOk] at hm
 refine ci func148 u ntmps148 (sr (lv (r_f u) (nsr (mv u (lv (rv_slen underlying9 u) (lv (r_m u) (nq ?_)))))))
 obtain⟨A,B,d⟩:=ob hm
 refine wc_cutg (IE A w K [] K [(0,sv q0)] []) ?_ ?_
 ·refine wc_block ?_
  obtain⟨ab,C,o⟩:=ob B
  refine qf (fun (i:Nat) (q:Unit)=>IV w K [] K [(0,sv q0),(5,V6 (q0.length:Int)),(6,V6 ((i:Nat):Int))] []) C ⟨K,u,hS,kr⟩ ?_ ?_
  ·rintro i q _ D ac hi21 G H ⟨c,rfl,f,k⟩
   refine sr (lv (rv_lss u u) (ns (wc_cond_t u (decide_eq_true (by omega)) (wc_skip (qe_seq (wc_seq (wc_block (sr (mv u (av u (ns ?_)))))))))))
   obtain⟨I,J,O⟩:=ob G
   refine wc_cutg (IV w K [] c [(0,sv q0),(5,V6 (q0.length:Int)),(6,V6 ((i:Nat):Int)),(18,.bool I)] []) ?_ ?_
   ·refine wc_region (mv u (mv u ?_))
    obtain⟨ad,R,S⟩:=ob J
    refine lv (rv_sidx underlying9 u u R) (lv (rv_bl (b:=(32:UInt8)) u u) (mv u (bt S (fun a l=>?_) (fun a l=>?_))))
    ·refine lu a (lu a (lu a (lu a (lv (p_t u a u) (wl_nil ?_)))))
     cases oi l
     exact qd ⟨c,u,f,kr⟩
    refine lg a (rv_move u) (lg a (rv_move u) ?_)
    obtain⟨ae,T,U⟩:=ob l
    refine lg a (rv_sidx underlying9 u u T) (lg a (rv_bg (b:=(126:UInt8)) u u) (lv (rv_pick_f u a u) (wl_nil ?_)))
    cases oi U
    exact qd ⟨c,u,f,kr⟩
   rintro _ af ⟨s,rfl,x,V⟩
   refine qe_seq (wcc O u (fun W m=>?_) (fun W m=>?_))
   ·refine sr (lv (r_f u) (nq (wc_ret (qe_block_ret (qe_then_ret (qe_then_ret ?_))))))
    cases oi m
    cases H _ u
    refine qe_block_ret (qe_then_ret ?_)
    cases oi o
    refine qe_then_ret ?_
    cases oi d
    exact ey results148 ⟨s,u,x⟩
   refine wc_skip (qe_block (qg (lv (rv_add_to u u (w64_succ hi21 y)) (mv u (wl_nil ?_)))))
   cases oi m
   exact qd ⟨_,u,s,u,x,(k.trans V)⟩
  rintro q _ D X ⟨c,rfl,f,k⟩
  subst X
  refine sr (lv (rv_lss u u) (ns (wc_cond_f u (decide_eq_false (by omega)) (wc_exit (qe_then_exit (qe_then_exit (qe_block_eq ?_)))))))
  cases oi o
  exact qd ⟨_,c,u,u,f,k⟩
 rintro _ w9 ⟨s5,Y,rfl,rfl,aa,ai⟩
 have d:=elim_l d
 refine qr (mv u (lv (rv_slen underlying9 u) (lv (rv_leq u u) (av u (nq (wc_ret ?_))))))
 cases oi d
 exact ey results148 ⟨Y,u,aa⟩

theorem ok_impl_DocOk {q0:GDoc}{r:Bool}(hS:SH w K [] w K [])(aH:rng64 q0.Id)(D:SliceAt tGField K A a b q0.Fields)(G:SliceAt tGAttr K B c d q0.Nums)(hm:M.impl_DocOk F q0=some r):
  Calls prog 105 #[.agg #[V6 q0.Id,V3 A a b,V3 B c d]] w (R_b w K r):=by
 rw [M.impl_DocOk] at hm
 refine ci func105 u ntmps105 (sr (bx u hS fun k cT aI=>?_))
 have Y:SH _ _ _ _ _ [obj k [V6 q0.Id,V3 A a b,V3 B c d] 77]:=aI
 refine lv (r_f u) (ns (wc_seq ?_))
 obtain⟨aJ,aK,aL⟩:=ob hm
 refine wc_cutg (IV w K [] K [(1,pt k),(22,.bool aJ)] [obj k [V6 q0.Id,V3 A a b,V3 B c d] 77]) ?_ ?_
 ·refine wc_region (fl ff77_0 u tf3 m0 Y u ?_)
  obtain⟨cU,aM,aN⟩:=ob aK
  refine lk co108 (ok_impl_within F Y.enter0 aH (by decide :rng64 1) (by decide :rng64 9999) aM) ?_
  rintro cV cW ⟨aa,rfl,C⟩
  have H:=(Y.c0 C).t1
  refine lv (rv_not u) (mv u (bt aN (fun o ab=>?_) (fun o ab=>?_)))
  ·refine lu o (lu o (lu o (lu o (lv (p_t u o u) (mv u (lu u (lu u (lu u (lu u ?_)))))))))
   refine lv (p_t u u u) (wl_nil ?_)
   cases oi ab
   exact qd ⟨aa,u,H,C.le⟩
  refine lg o (rv_fieldAddr ff77_1 u) (lg o (rv_loadm1 tf74 u m0 H u) (lg o (rv_len underlying74 u (D.mono C.le)) (lg o (rv_gtr u u) (lv (rv_pick_f u o u) (mv u (bt ab (fun q ac=>?_) (fun q ac=>?_)))))))
  ·refine lu q (lu q (lu q (lu q (lv (p_t u q u) (wl_nil ?_)))))
   cases oi ac
   exact qd ⟨aa,u,H,C.le⟩
  refine lg q (rv_fieldAddr ff77_2 u) (lg q (rv_loadm1 tf75 u m0 H u) (lg q (rv_len underlying75 u (G.mono C.le)) (lg q (rv_gtr u u) (lv (rv_pick_f u q u) (wl_nil ?_)))))
  cases oi ac
  exact qd ⟨aa,u,H,C.le⟩
 rintro _ cX ⟨O,rfl,ad,y⟩
 refine qe_seq (wcc aL u (fun aO ae=>?_) (fun aO ae=>?_))
 ·refine sr (lv (r_f u) (nq (rr ?_)))
  cases oi ae
  exact ey results105 ⟨O,u,ad.s⟩
 refine wc_skip (qs (sr (fl ff77_1 u tf74 m0 ad u (lv (rv_len underlying74 u (D.mono y)) (lv (r_m u) (nq ?_))))))
 obtain⟨aP,aQ,R⟩:=ob ae
 refine wc_cutg (IE aP w K [] O [(1,pt k)] [obj k [V6 q0.Id,V3 A a b,V3 B c d] 77]) ?_ ?_
 ·refine wc_block ?_
  obtain⟨cY,aR,aw⟩:=ob aQ
  refine qf (fun (af:Nat) (ax:Unit)=>IV w K [] O [(1,pt k),(24,V3 A a b),(25,V6 (q0.Fields.length:Int)),(26,V6 ((af:Nat):Int))] [obj k [V6 q0.Id,V3 A a b,V3 B c d] 77]) aR ⟨O,u,ad,kr⟩ ?_ ?_
  ·rintro af ax _ aS cZ hi54 aT aU ⟨ag,rfl,S,I⟩
   refine sr (lv (rv_lss u u) (ns (wc_cond_t u (decide_eq_true (by omega)) (wc_skip (qe_seq (wc_seq (wc_block (sr (mv u ?_)))))))))
   obtain⟨T,aV,aW⟩:=ob aT
   refine li underlying74 tf108 (D.mono (y.trans I)) aV fun aX aY da aZ ba=>?_
   obtain⟨rfl,bb,bc⟩:=aZ
   have bd:AtK _ aX aY [sv T.Name,sv T.Text]:=ba
   refine lv (rv_loadS tf108 u S bd u) (al tf108 S fun be db bf=>?_)
   have bg:SH _ _ _ _ _ [obj be [sv [],sv []] 108,_]:=bf
   refine av u (lw [sv T.Name,sv T.Text] tf108 bg fun dc bh=>(ns ?_))
   obtain⟨bi,bj,bk⟩:=ob aW
   refine wc_cutg (IV w K [] ag [(1,pt k),(24,V3 A a b),(25,V6 (q0.Fields.length:Int)),(26,V6 ((af:Nat):Int)),(56,.bool bi)] [obj k [V6 q0.Id,V3 A a b,V3 B c d] 77]) ?_ ?_
   ·refine wc_quiet mixed (by kernel_rfl) bh (kv (rv_fieldAddr ff108_0 u) (kh (rq_loadm1 tf9 u m0 u) ?_))
    obtain⟨dd,bl,bm⟩:=ob bj
    refine kc co123 (fun _ _ bn de=>(ok_impl_WordOk F) bn.enter0 bb bl) (kv (rv_not u) (km u (bt bm (fun s ah=>?_) (fun s ah=>?_))))
    ·refine kn s (kn s (kn s (kn s (kv (p_t u s u) (km u (qv u u u u (qv u u u u (qv u u u u ?_))))))))
     iterate 10 refine ku ?_
     refine qv u u u u (kv (p_t u u u) (wq_nil ?_))
     rintro df ⟨bo,bp,bq⟩
     cases oi ah
     exact qd ⟨bo,u,bp.s,bq⟩
    refine kg s (rv_fieldAddr ff108_1 u) (kgh s (rq_loadm1 tf9 u m0 u) ?_)
    obtain⟨dg,br,bs⟩:=ob ah
    refine kcg s co148 (fun _ _ bu dh=>(ok_impl_TextOk F) bu.enter0 bc br) (kg s (rv_not u) (kv (rv_pick_f u s u) (km u (bt bs (fun l ai=>?_) (fun l ai=>?_)))))
    ·refine kn l (kn l (kn l ?_))
     iterate 10 refine ku ?_
     refine kn l (kv (p_t u l u) (wq_nil ?_))
     rintro di ⟨bv,bz,bA⟩
     cases oi ai
     exact qd ⟨bv,u,bz.s,bA⟩
    refine kg l (rv_move u) (kg l (rv_gtr u u) (kg l (rv_move u) (bt ai (fun f aj=>?_) (fun f aj=>?_))))
    ·refine kg f (rv_fieldAddr ff77_1 u) (kgh f (rq_loadm1 tf74 u m1 u) (kg f (rv_move u) (kg f (rv_sub u u) ?_)))
     obtain⟨ay,bB,bC⟩:=ob aj
     refine wq_indexAddr (t:=tGField) (wg u u f) u underlying74 tf108 u u (D.mono (y.trans I)) bB fun bD bE dj bF bG=>?_
     obtain⟨rfl,dk,dl⟩:=bF
     have bH:AtK _ bD bE [sv ay.Name,sv ay.Text]:=bG
     refine kg f (rv_fieldAddr ff108_0 u) (kgh f (rq_load1 tf9 u (bH 0 _ u)) (kg f (rv_fieldAddr ff108_0 u) (kgh f (rq_loadm1 tf9 u m0 u) (kg f (rv_sgeq u u) (kg l (rv_pick_t u f u) (kv (rv_pick_f u l u) (wq_nil ?_)))))))
     rintro dm ⟨bI,bJ,bK⟩
     cases oi bC
     exact qd ⟨bI,u,bJ.s,bK⟩
    iterate 10 refine kn f ?_
    refine kg l (p_f u f u) (kv (rv_pick_f u l u) (wq_nil ?_))
    rintro dn ⟨bL,bM,bN⟩
    cases oi aj
    exact qd ⟨bL,u,bM.s,bN⟩
   rintro _ dp ⟨az,rfl,aA,bO⟩
   refine qe_seq (wcc bk u (fun bP ak=>?_) (fun bP ak=>?_))
   ·refine sr (lv (r_f u) (nq (wc_ret (qe_block_ret (qe_then_ret (qe_then_ret ?_))))))
    cases oi ak
    cases aU _ u
    refine qe_block_ret (qe_then_ret ?_)
    cases oi aw
    refine qe_then_ret ?_
    cases oi R
    exact ey results105 ⟨az,u,aA.s⟩
   refine wc_skip (qe_block (qg (lv (rv_add_to u u (w64_succ hi54 (SliceAt.max (D.mono y)))) (mv u (wl_nil ?_)))))
   cases oi ak
   exact qd ⟨_,u,az,u,aA,(I.trans bO)⟩
  rintro ax _ aS bQ ⟨ag,rfl,S,I⟩
  subst bQ
  refine sr (lv (rv_lss u u) (ns (wc_cond_f u (decide_eq_false (by omega)) (wc_exit (qe_then_exit (qe_then_exit (qe_block_eq ?_)))))))
  cases oi aw
  exact qd ⟨_,ag,u,u,S,I⟩
 rintro _ dq ⟨dr,am,rfl,rfl,aB,U⟩
 have R:=elim_l R
 refine qs (sr (fl ff77_2 u tf75 m0 aB u (lv (rv_len underlying75 u (G.mono (y.trans U))) (lv (r_m u) (nq ?_)))))
 obtain⟨bR,bS,V⟩:=ob R
 refine wc_cutg (IE bR w K [] am [] []) ?_ ?_
 ·refine wc_block ?_
  obtain⟨ds,bT,aC⟩:=ob bS
  refine qf (fun (an:Nat) (aD:Unit)=>IV w K [] am [(1,pt k),(59,V3 B c d),(60,V6 (q0.Nums.length:Int)),(61,V6 ((an:Nat):Int))] [obj k [V6 q0.Id,V3 A a b,V3 B c d] 77]) bT ⟨am,u,aB,kr⟩ ?_ ?_
  ·rintro an aD _ bU dt hi156 bV bW ⟨ao,rfl,W,J⟩
   refine sr (lv (rv_lss u u) (ns (wc_cond_t u (decide_eq_true (by omega)) (wc_skip (qe_seq (wc_seq (wc_block (sr (mv u ?_)))))))))
   obtain⟨X,bX,bY⟩:=ob bV
   refine li underlying75 tf142 (G.mono ((y.trans U).trans J)) bX fun bZ ca du cb cc=>?_
   obtain⟨rfl,cd,ce⟩:=cb
   have cf:AtK _ bZ ca [sv X.Name,V6 X.Num]:=cc
   refine lv (rv_loadS tf142 u W cf u) (al tf142 W fun cg dv ch=>?_)
   have cj:SH _ _ _ _ _ [obj cg [sv [],V6 0] 142,_]:=ch
   refine av u (lw [sv X.Name,V6 X.Num] tf142 cj fun dw ck=>(ns ?_))
   obtain⟨cl,cm,cn⟩:=ob bY
   refine wc_cutg (IV w K [] ao [(1,pt k),(59,V3 B c d),(60,V6 (q0.Nums.length:Int)),(61,V6 ((an:Nat):Int)),(91,.bool cl)] [obj k [V6 q0.Id,V3 A a b,V3 B c d] 77]) ?_ ?_
   ·refine wc_quiet mixed (by kernel_rfl) ck (kv (rv_fieldAddr ff142_0 u) (kh (rq_loadm1 tf9 u m0 u) ?_))
    obtain⟨dx,cp,cq⟩:=ob cm
    refine kc co123 (fun _ _ cr dy=>(ok_impl_WordOk F) cr.enter0 cd cp) (kv (rv_not u) (km u (bt cq (fun x ap=>?_) (fun x ap=>?_))))
    ·refine kn x (kn x (kn x (kn x (kv (p_t u x u) (km u (qv u u u u (qv u u u u (qv u u u u ?_))))))))
     iterate 10 refine ku ?_
     refine qv u u u u (kv (p_t u u u) (wq_nil ?_))
     rintro dz ⟨cs,ct,cu⟩
     cases oi ap
     exact qd ⟨cs,u,ct.s,cu⟩
    refine kg x (rv_fieldAddr ff142_1 u) (kgh x (rq_loadm1 tf3 u m0 u) ?_)
    obtain⟨dA,cv,cw⟩:=ob ap
    refine kcg x co108 (fun _ _ cx dB=>(ok_impl_within F) cx.enter0 ce d_0 (by decide :rng64 999999999) cv) (kg x (rv_not u) (kv (rv_pick_f u x u) (km u (bt cw (fun m aq=>?_) (fun m aq=>?_)))))
    ·refine kn m (kn m (kn m ?_))
     iterate 10 refine ku ?_
     refine kn m (kv (p_t u m u) (wq_nil ?_))
     rintro dC ⟨cy,cz,cA⟩
     cases oi aq
     exact qd ⟨cy,u,cz.s,cA⟩
    refine kg m (rv_move u) (kg m (rv_gtr u u) (kg m (rv_move u) (bt aq (fun i ar=>?_) (fun i ar=>?_))))
    ·refine kg i (rv_fieldAddr ff77_2 u) (kgh i (rq_loadm1 tf75 u m1 u) (kg i (rv_move u) (kg i (rv_sub u u) ?_)))
     obtain⟨aE,cB,cC⟩:=ob ar
     refine wq_indexAddr (t:=tGAttr) (wg u u i) u underlying75 tf142 u u (G.mono ((y.trans U).trans J)) cB fun cD cE dD cF cG=>?_
     obtain⟨rfl,dE,dF⟩:=cF
     have cH:AtK _ cD cE [sv aE.Name,V6 aE.Num]:=cG
     refine kg i (rv_fieldAddr ff142_0 u) (kgh i (rq_load1 tf9 u (cH 0 _ u)) (kg i (rv_fieldAddr ff142_0 u) (kgh i (rq_loadm1 tf9 u m0 u) (kg i (rv_sgeq u u) (kg m (rv_pick_t u i u) (kv (rv_pick_f u m u) (wq_nil ?_)))))))
     rintro dG ⟨cI,cJ,cK⟩
     cases oi cC
     exact qd ⟨cI,u,cJ.s,cK⟩
    iterate 10 refine kn i ?_
    refine kg m (p_f u i u) (kv (rv_pick_f u m u) (wq_nil ?_))
    rintro dH ⟨cL,cM,cN⟩
    cases oi ar
    exact qd ⟨cL,u,cM.s,cN⟩
   rintro _ dI ⟨aF,rfl,aG,cO⟩
   refine qe_seq (wcc cn u (fun cP au=>?_) (fun cP au=>?_))
   ·refine sr (lv (r_f u) (nq (wc_ret (qe_block_ret (qe_then_ret (qe_then_ret ?_))))))
    cases oi au
    cases bW _ u
    refine qe_block_ret (qe_then_ret ?_)
    cases oi aC
    refine qe_then_ret ?_
    cases oi V
    exact ey results105 ⟨aF,u,aG.s⟩
   refine wc_skip (qe_block (qg (lv (rv_add_to u u (w64_succ hi156 (SliceAt.max (G.mono (y.trans U))))) (mv u (wl_nil ?_)))))
   cases oi au
   exact qd ⟨_,u,aF,u,aG,(J.trans cO)⟩
  rintro aD _ bU cQ ⟨ao,rfl,W,J⟩
  subst cQ
  refine sr (lv (rv_lss u u) (ns (wc_cond_f u (decide_eq_false (by omega)) (wc_exit (qe_then_exit (qe_then_exit (qe_block_eq ?_)))))))
  cases oi aC
  exact qe_mid' ⟨_,ao,u,u,W.s,J⟩ trivial
 rintro _ dJ ⟨dK,cR,rfl,rfl,cS,dL⟩
 have V:=elim_l V
 refine qr (lv (r_t u) (nq (wc_ret ?_)))
 cases oi V
 exact ey results105 ⟨cR,u,cS⟩

theorem ok_impl_DocsOk {q0:List GDoc}{r:Bool}(hS:SH w K [] w K [])(f:SliceAt tGDoc K A a b q0)(hm:M.impl_DocsOk F q0=some r):
  Calls prog 45 #[V3 A a b] w (R_b w K r):=by
 rw [M.impl_DocsOk] at hm
 refine ci func45 u ntmps45 (sr (lv (r_f u) (nsr (mv u (lv (rv_len underlying43 u f) (lv (r_m u) (nq ?_)))))))
 obtain⟨U,V,k⟩:=ob hm
 refine wc_cutg (IE U w K [] K [(0,V3 A a b)] []) ?_ ?_
 ·refine wc_block ?_
  obtain⟨bc,W,J⟩:=ob V
  refine qf (fun (m:Nat) (O:Unit)=>IV w K [] K [(0,V3 A a b),(5,V3 A a b),(6,V6 (q0.length:Int)),(7,V6 ((m:Nat):Int))] []) W ⟨K,u,hS,kr⟩ ?_ ?_
  ·rintro m O _ X bd hi23 Y aa ⟨o,rfl,l,i⟩
   refine sr (lv (rv_lss u u) (ns (wc_cond_t u (decide_eq_true (by omega)) (wc_skip (qe_seq (wc_seq (wc_block (sr (mv u ?_)))))))))
   obtain⟨q,ab,ac⟩:=ob Y
   refine li underlying43 tf77 (f.mono i) ab fun ad ae be af ag=>?_
   obtain⟨s,x,y,B,C,D,rfl,ah,ai,aj⟩:=af
   have ak:AtK _ ad ae [V6 q.Id,V3 s x y,V3 B C D]:=ag
   refine lv (rv_loadS tf77 u l ak u) (al tf77 l fun am bf an=>?_)
   have ao:SH _ _ _ _ _ [obj am [V6 0,V3 none 0 0,V3 none 0 0] 77]:=an
   refine av u (lw [V6 q.Id,V3 s x y,V3 B C D] tf77 ao fun bg ap=>(ns ?_))
   obtain⟨aq,ar,au⟩:=ob ac
   refine wc_cutg (IV w K [] o [(0,V3 A a b),(5,V3 A a b),(6,V6 (q0.length:Int)),(7,V6 ((m:Nat):Int)),(29,.bool aq)] []) ?_ ?_
   ·refine wc_quiet mixed (by kernel_rfl) ap (kh (rq_loadmS (ds:=[V6 q.Id,V3 s x y,V3 B C D]) tf77 u m0 u u) ?_)
    obtain⟨bh,aw,ax⟩:=ob ar
    refine kc co105 (fun _ _ ay R=>(ok_impl_DocOk F) ay.enter0 ah (ai.mono R) (aj.mono R) aw) (kv (rv_not u) (km u (bt ax (fun c G=>?_) (fun c G=>?_))))
    ·refine kn c (kn c (kn c ?_))
     iterate 9 refine ku ?_
     refine kn c (kv (p_t u c u) (wq_nil ?_))
     rintro bi ⟨az,aA,aB⟩
     cases oi G
     exact qd ⟨az,u,aA.s,aB⟩
    refine kg c (rv_move u) (kg c (rv_gtr u u) (kg c (rv_move u) (bt G (fun d H=>?_) (fun d H=>?_))))
    ·refine kg d (rv_move u) (kg d (rv_move u) (kg d (rv_sub u u) ?_))
     obtain⟨aC,aD,aE⟩:=ob H
     refine wq_indexAddr (t:=tGDoc) (wg u u d) u underlying43 tf77 u u (f.mono i) aD fun aF aG bj aH aI=>?_
     obtain⟨aJ,aK,aL,aM,aN,aO,rfl,bk,bl,bm⟩:=aH
     have aP:AtK _ aF aG [V6 aC.Id,V3 aJ aK aL,V3 aM aN aO]:=aI
     refine kg d (rv_fieldAddr ff77_0 u) (kgh d (rq_load1 tf3 u (aP 0 _ u)) (kg d (rv_fieldAddr ff77_0 u) (kgh d (rq_loadm1 tf3 u m0 u) (kg d (rv_geq u u) (kg c (rv_pick_t u d u) (kv (rv_pick_f u c u) (wq_nil ?_)))))))
     rintro bn ⟨aQ,aR,aS⟩
     cases oi aE
     exact qd ⟨aQ,u,aR.s,aS⟩
    iterate 9 refine kn d ?_
    refine kg c (p_f u d u) (kv (rv_pick_f u c u) (wq_nil ?_))
    rintro bo ⟨aT,aU,aV⟩
    cases oi H
    exact qd ⟨aT,u,aU.s,aV⟩
   rintro _ bp ⟨S,rfl,T,aW⟩
   refine qe_seq (wcc au u (fun aX I=>?_) (fun aX I=>?_))
   ·refine sr (lv (r_f u) (nq (wc_ret (qe_block_ret (qe_then_ret (qe_then_ret ?_))))))
    cases oi I
    cases aa _ u
    refine qe_block_ret (qe_then_ret ?_)
    cases oi J
    refine qe_then_ret ?_
    cases oi k
    exact ey results45 ⟨S,u,T⟩
   refine wc_skip (qe_block (qg (lv (rv_add_to u u (w64_succ hi23 (SliceAt.max f))) (mv u (wl_nil ?_)))))
   cases oi I
   exact qd ⟨_,u,S,u,T,(i.trans aW)⟩
  rintro O _ X aY ⟨o,rfl,l,i⟩
  subst aY
  refine sr (lv (rv_lss u u) (ns (wc_cond_f u (decide_eq_false (by omega)) (wc_exit (qe_then_exit (qe_then_exit (qe_block_eq ?_)))))))
  cases oi J
  exact qd ⟨_,o,u,u,l,i⟩
 rintro _ bq ⟨s8,K9,rfl,rfl,ba,bb⟩
 have k:=elim_l k
 refine qr (mv u (lv (rv_len underlying43 u (f.mono bb)) (lv (rv_leq u u) (av u (nq (wc_ret ?_))))))
 cases oi k
 exact ey results45 ⟨K9,u,ba⟩

theorem ok_impl_wordsAscend {q0:List Str}{r:Bool}(hS:SH w K [] w K [])(l:SliceAt tStr K A a b q0)(hm:M.impl_wordsAscend F q0=some r):
  Calls prog 122 #[V3 A a b] w (R_b w K r):=by
 rw [M.impl_wordsAscend] at hm
 refine ci func122 u ntmps122 (sr (lv (r_f u) (nsr (mv u (lv (rv_len underlying22 u l) (lv (r_m u) (nq ?_)))))))
 obtain⟨J,O,m⟩:=ob hm
 refine wc_cutg (IE J w K [] K [] []) ?_ ?_
 ·refine wc_block ?_
  obtain⟨aA,R,D⟩:=ob O
  refine qf (fun (q:Nat) (G:Unit)=>IV w K [] K [(0,V3 A a b),(5,V3 A a b),(6,V6 (q0.length:Int)),(7,V6 ((q:Nat):Int))] []) R ⟨K,u,hS,kr⟩ ?_ ?_
  ·rintro q G _ S aB hi23 T U ⟨s,rfl,f,i⟩
   refine sr (lv (rv_lss u u) (ns (wc_cond_t u (decide_eq_true (by omega)) (wc_skip (qe_seq (wc_seq (wc_block (sr (mv u ?_)))))))))
   obtain⟨V,W,X⟩:=ob T
   refine li underlying22 tf9 (l.mono i) W fun Y aa aC ab ac=>?_
   obtain⟨rfl,ad⟩:=ab
   have ae:AtK _ Y aa [sv V]:=ac
   refine lv (rv_load1 tf9 u f (ae 0 _ u)) (av u (av u (ns ?_)))
   obtain⟨af,ag,ah⟩:=ob X
   refine wc_cutg (IV w K [] s [(0,V3 A a b),(5,V3 A a b),(6,V6 (q0.length:Int)),(7,V6 ((q:Nat):Int)),(27,.bool af)] []) ?_ ?_
   ·refine wc_region (mv u ?_)
    obtain⟨aD,ai,aj⟩:=ob ag
    refine lk co123 (ok_impl_WordOk F f.enter0 ad ai) ?_
    rintro aE aF ⟨x,rfl,k⟩
    have o:=(f.c0 k).t0
    refine lv (rv_not u) (mv u (bt aj (fun c y=>?_) (fun c y=>?_)))
    ·refine lu c (lu c (lu c (wl_un (uu u u) u (wl_un (uu u u) u (wl_un (uu u u) u (wl_un (uu u u) u (wl_un (uu u u) u (wl_un (uu u u) u (wl_un (uu u u) u ?_)))))))))
     refine lu c (lv (p_t u c u) (wl_nil ?_))
     cases oi y
     exact qd ⟨x,u,o,k.le⟩
    refine lg c (rv_move u) (lg c (rv_gtr u u) (lg c (rv_move u) (bt y (fun d B=>?_) (fun d B=>?_))))
    ·refine lg d (rv_move u) (lg d (rv_move u) (lg d (rv_sub u u) ?_))
     obtain⟨ak,al,am⟩:=ob B
     refine wl_indexAddr (t:=tStr) (wg u u d) u underlying22 tf9 u u (l.mono (i.trans k.le)) al fun an ao aG ap aq=>?_
     obtain⟨rfl,aH⟩:=ap
     have ar:AtK _ an ao [sv ak]:=aq
     refine lg d (rv_load1 tf9 u o (ar 0 _ u)) (lg d (rv_move u) (lg d (rv_sgeq u u) (lg c (rv_pick_t u d u) (lv (rv_pick_f u c u) (wl_nil ?_)))))
     cases oi am
     exact qd ⟨x,u,o,k.le⟩
    iterate 7 refine lu d ?_
    refine lg c (p_f u d u) (lv (rv_pick_f u c u) (wl_nil ?_))
    cases oi B
    exact qd ⟨x,u,o,k.le⟩
   rintro _ aI ⟨H,rfl,I,au⟩
   refine qe_seq (wcc ah u (fun aw C=>?_) (fun aw C=>?_))
   ·refine sr (lv (r_f u) (nq (wc_ret (qe_block_ret (qe_then_ret (qe_then_ret ?_))))))
    cases oi C
    cases U _ u
    refine qe_block_ret (qe_then_ret ?_)
    cases oi D
    refine qe_then_ret ?_
    cases oi m
    exact ey results122 ⟨H,u,I⟩
   refine wc_skip (qe_block (qg (lv (rv_add_to u u (w64_succ hi23 (SliceAt.max l))) (mv u (wl_nil ?_)))))
   cases oi C
   exact qd ⟨_,u,H,u,I,(i.trans au)⟩
  rintro G _ S ax ⟨s,rfl,f,i⟩
  subst ax
  refine sr (lv (rv_lss u u) (ns (wc_cond_f u (decide_eq_false (by omega)) (wc_exit (qe_then_exit (qe_then_exit (qe_block_eq ?_)))))))
  cases oi D
  exact qe_mid' ⟨_,s,u,u,f,i⟩ trivial
 rintro _ aJ ⟨s8,K9,rfl,rfl,az,aL⟩
 have m:=elim_l m
 refine qr (lv (r_t u) (nq (wc_ret ?_)))
 cases oi m
 exact ey results122 ⟨K9,u,az⟩

theorem ok_stringslite_HasSuffix {q0:Str}{q1:Str}{r:Bool}(hS:SH w K [] w K [])(f:q0.length≤maxLen)(i:q1.length≤maxLen)(hm:M.stringslite_HasSuffix F q0 q1=some r):
  Calls prog 227 #[sv q0,sv q1] w (R_b w K r):=by
 rw [M.stringslite_HasSuffix] at hm
 refine ci func227 u ntmps227 (sr (lv (r_f u) (nr (mv u (lv (rv_slen underlying9 u) (mv u (lv (rv_slen underlying9 u) (lv (rv_geq u u) (mv u ?_)))))))))
 refine bt hm (fun a b=>?_) (fun a b=>?_)
 ·refine lg a (rv_move u) (lg a (rv_move u) (lg a (rv_slen underlying9 u) (lg a (rv_move u) (lg a (rv_slen underlying9 u) (lg a (rv_sub u u) ?_)))))
  obtain⟨k,c,d⟩:=ob b
  refine lg a (rv_ssl_l underlying9 u u c) (lg a (rv_move u) (lg a (rv_seql u u) (lv (rv_pick_t u a u) (av u (nq (wc_ret ?_))))))
  cases oi d
  exact ey results227 ⟨K,u,hS⟩
 iterate 9 refine lu a ?_
 refine lv (p_f u a u) (av u (nq (wc_ret ?_)))
 cases oi b
 exact ey results227 ⟨K,u,hS⟩

theorem ok_strings_HasSuffix {q0:Str}{q1:Str}{r:Bool}(hS:SH w K [] w K [])(a:q0.length≤maxLen)(b:q1.length≤maxLen)(hm:M.strings_HasSuffix F q0 q1=some r):
  Calls prog 186 #[sv q0,sv q1] w (R_b w K r):=by
 rw [M.strings_HasSuffix] at hm
 refine ci func186 u ntmps186 (sr (lv (r_f u) (nr (mv u (mv u ?_)))))
 obtain⟨l,c,d⟩:=ob hm
 refine lk co227 (ok_stringslite_HasSuffix F hS.enter0 a b c) ?_
 rintro m o ⟨f,rfl,i⟩
 have k:=(hS.c0 i).t0
 refine av u (nq (wc_ret ?_))
 cases oi d
 exact ey results186 ⟨f,u,k⟩

theorem ok_impl_StemOf {q0:Str}{r:Str}(hS:SH w K [] w K [])(D:q0.length≤maxLen)(hm:M.impl_StemOf F q0=some r):
  Calls prog 124 #[sv q0] w fun e w'=>∃K',e= .returned (sv r)∧SH w K [] w' K' []∧r.length≤maxLen:=by
 rw [M.impl_StemOf] at hm
 refine ci func124 u ntmps124 (sr (lv (r_s u) (nsr (mv u ?_))))
 obtain⟨r2,ab,h4⟩:=ob hm
 refine lk co123 (ok_impl_WordOk F hS.enter0 D ab) ?_
 rintro e8 w6 ⟨i,rfl,ad⟩
 have G:=(hS.c0 ad).t0
 refine lv (rv_not u) (nq (wcc h4 u (fun ae l=>?_) (fun ae l=>?_)))
 ·refine sr (lv (r_s u) (nq (rr ?_)))
  cases oi l
  exact ey results124 ⟨i,u,G,(by decide :([]:Str).length≤maxLen)⟩
 refine wc_skip (qs (sr (lv (r_t u) (nq ?_))))
 obtain⟨H,af,ag⟩:=ob l
 refine wc_cutg (IW w K [] i [(0,sv H)] [] (H.length≤maxLen)) ?_ ?_
 ·refine wc_block ?_
  obtain⟨aZ,ah,ai⟩:=ob af
  refine qw (fun (k:Str×Bool)=>IW w K [] i [(0,sv k.1),(3,.bool k.2)] [] (k.1.length≤maxLen)) ah ⟨i,u,G,kr,D⟩ ?_
  rintro k _ ba bb aj ak ⟨al,rfl,I,J,O⟩
  refine wc_seq (sr (mv u (nq (wcc aj u (fun am m=>?_) (fun am m=>?_)))))
  ·refine wc_skip (qe_seq (wc_block (sr (lv (r_f u) (nr (bw [[105,110,103],[101,100],[101,115],[108,121],[115]] underlying22 tf9 I fun R bc o an q ao=>(lv (rv_len underlying22 u q) (lv (r_m u) (nq ?_)))))))))
   obtain⟨s,ap,aq⟩:=ob m
   refine wc_cutg (IW w K [] o [(0,sv s.1),(3,.bool s.2)] [] (s.1.length≤maxLen)) ?_ ?_
   ·refine wc_block ?_
    obtain⟨bd,ar,S⟩:=ob ap
    have au:=ao.sb (sd sz)
    refine qf (fun (x:Nat) (b:Str×Bool)=>IW w K [] o [(0,sv b.1),(3,.bool b.2),(10,V3 R 5 5),(11,V6 (([([105,110,103]:Str),([101,100]:Str),([101,115]:Str),([108,121]:Str),([115]:Str)]:List Str).length:Int)),(12,V6 ((x:Nat):Int))] [] (b.1.length≤maxLen)) ar ⟨o,u,au,kr,O⟩ ?_ ?_
    ·rintro x b _ aw be hi60 ax ay ⟨y,rfl,c,d,f⟩
     refine sr (lv (rv_lss u u) (ns (wc_cond_t u (decide_eq_true (by omega)) (wc_skip (qe_seq (wc_seq (wc_block (sr ?_))))))))
     obtain⟨T,az,aA⟩:=ob ax
     refine li underlying22 tf9 (q.mono d) az fun aB aC bf aD aE=>?_
     obtain⟨rfl,aF⟩:=aD
     have aG:AtK _ aB aC [sv T]:=aE
     refine lv (rv_load1 tf9 u c (aG 0 _ u)) (av u (ns ?_))
     obtain⟨aH,aI,aJ⟩:=ob aA
     refine wc_cutg (IV w K [] y [(0,sv b.1),(3,.bool b.2),(5,sv T),(10,V3 R 5 5),(11,V6 (([([105,110,103]:Str),([101,100]:Str),([101,115]:Str),([108,121]:Str),([115]:Str)]:List Str).length:Int)),(12,V6 ((x:Nat):Int)),(26,.bool aH)] []) ?_ ?_
     ·refine wc_region (mv u (mv u ?_))
      obtain⟨bg,aK,aL⟩:=ob aI
      refine lk co186 (ok_strings_HasSuffix F c.enter0 f aF aK) ?_
      rintro bh bi ⟨U,rfl,A⟩
      have V:=(c.c0 A).t0
      refine mv u (bt aL (fun a B=>?_) (fun a B=>?_))
      ·refine lg a (rv_move u) (lg a (rv_slen underlying9 u) (lg a (rv_move u) (lg a (rv_slen underlying9 u) (lg a (rv_sub u u) (lg a (rv_geq u u) (lv (rv_pick_t u a u) (wl_nil ?_)))))))
       cases oi B
       exact qd ⟨U,u,V,A.le⟩
      iterate 6 refine lu a ?_
      refine lv (p_f u a u) (wl_nil ?_)
      cases oi B
      exact qd ⟨U,u,V,A.le⟩
     rintro _ bj ⟨W,rfl,X,Y⟩
     refine qe_seq (wcc aJ u (fun aM C=>?_) (fun aM C=>?_))
     ·refine sr (mv u (mv u (lv (rv_slen underlying9 u) (mv u (lv (rv_slen underlying9 u) (lv (rv_sub u u) ?_))))))
      obtain⟨bk,aa,aN⟩:=ob C
      refine lv (rv_ssl_h underlying9 u u aa) (av u (nr (lv (r_t u) (nq (wc_exit (qe_block_ne u (qe_then_exit (qe_then_exit ?_))))))))
      cases oi aN
      cases ay _ u
      refine qe_block_eq ?_
      cases oi S
      exact qd ⟨W,u,X,(d.trans Y),(len_sub f aa)⟩
     refine wc_skip (qe_block (qg (lv (rv_add_to u u (w64_succ hi60 (SliceAt.max q))) (mv u (wl_nil ?_)))))
     cases oi C
     exact qd ⟨_,u,W,u,X,(d.trans Y),f⟩
    rintro b _ aw aO ⟨y,rfl,c,d,f⟩
    subst aO
    refine sr (lv (rv_lss u u) (ns (wc_cond_f u (decide_eq_false (by omega)) (wc_exit (qe_then_exit (qe_then_exit (qe_block_eq ?_)))))))
    cases oi S
    exact qd ⟨y,u,c,d,f⟩
   rintro _ bl ⟨aP,rfl,aQ,aR,aS⟩
   refine qe_block ?_
   cases oi aq
   exact qd ⟨_,u,aP,u,aQ,((J.trans an).trans aR),aS⟩
  refine wc_exit (qe_then_exit (qe_then_exit ?_))
  cases oi m
  cases ak _ u
  refine qe_block_eq ?_
  cases oi ai
  exact qd ⟨al,u,I,J,O⟩
 rintro _ bm ⟨aT,rfl,aU,bn,aV⟩
 refine qr (mv u (av u (nq (wc_ret ?_))))
 cases oi ag
 exact ey results124 ⟨aT,u,aU,aV⟩

theorem ok_slices_Index_string {q0:List Str}{q1:Str}{r:Int}(hS:SH w K [] w K [])(d:SliceAt tStr K A a b q0)(Y:q1.length≤maxLen)(hm:M.slices_Index_string F q0 q1=some r):
  Calls prog 187 #[V3 A a b,sv q1] w (R_i w K r):=by
 rw [M.slices_Index_string] at hm
 refine ci func187 u ntmps187 (sr (lv (r_0 u) (nsr (mv u (lv (rv_len underlying22 u d) (lv (r_m u) (nq ?_)))))))
 obtain⟨s,x,f⟩:=ob hm
 refine wc_cutg (IE s w K [] K [] []) ?_ ?_
 ·refine wc_block ?_
  obtain⟨aa,y,m⟩:=ob x
  refine qf (fun (o:Nat) (q:Unit)=>IV w K [] K [(0,V3 A a b),(1,sv q1),(7,V6 (q0.length:Int)),(8,V6 ((o:Nat):Int))] []) y ⟨K,u,hS,kr⟩ ?_ ?_
  ·rintro o q _ B ab hi24 C D ⟨i,rfl,c,k⟩
   refine sr (lv (rv_lss u u) (ns (wc_cond_t u (decide_eq_true (by omega)) (wc_skip (qe_seq (wc_seq (wc_block (sr (mv u (av u (nr (mv u ?_))))))))))))
   refine mv u (mv u ?_)
   obtain⟨G,H,I⟩:=ob C
   refine li underlying22 tf9 (d.mono k) H fun J O ac R S=>?_
   obtain⟨rfl,ad⟩:=R
   have T:AtK _ J O [sv G]:=S
   refine lv (rv_load1 tf9 u c (T 0 _ u)) (lv (rv_seql u u) (nq (wcc I u (fun U l=>?_) (fun U l=>?_))))
   ·refine sr (mv u (av u (nq (wc_ret (qe_block_ret (qe_then_ret (qe_then_ret ?_)))))))
    cases oi l
    cases D _ u
    refine qe_block_ret (qe_then_ret ?_)
    cases oi m
    refine qe_then_ret ?_
    cases oi f
    exact ey results187 ⟨i,u,c,(rng_idx hi24 (SliceAt.max d))⟩
   refine wc_skip (qe_block (qg (lv (rv_add_to u u (w64_succ hi24 (SliceAt.max d))) (mv u (wl_nil ?_)))))
   cases oi l
   exact qd ⟨_,u,i,u,c,k⟩
  rintro q _ B V ⟨i,rfl,c,k⟩
  subst V
  refine sr (lv (rv_lss u u) (ns (wc_cond_f u (decide_eq_false (by omega)) (wc_exit (qe_then_exit (qe_then_exit (qe_block_eq ?_)))))))
  cases oi m
  exact qe_mid' ⟨_,i,u,u,c,k⟩ trivial
 rintro _ ae ⟨s9,W,rfl,rfl,X,ag⟩
 have f:=elim_l f
 refine qr (lv (rv_assign (v:=V6 (-1)) u) (nq (wc_ret ?_)))
 cases oi f
 exact ey results187 ⟨W,u,X,(by decide :rng64 (-1))⟩

theorem ok_slices_Contains_string {q0:List Str}{q1:Str}{r:Bool}(hS:SH w K [] w K [])(c:SliceAt tStr K A a b q0)(d:q1.length≤maxLen)(hm:M.slices_Contains_string F q0 q1=some r):
  Calls prog 125 #[V3 A a b,sv q1] w (R_b w K r):=by
 rw [M.slices_Contains_string] at hm
 refine ci func125 u ntmps125 (sr (lv (r_f u) (nr (mv u (mv u ?_)))))
 obtain⟨o,f,i⟩:=ob hm
 refine lk co187 (ok_slices_Index_string F hS.enter0 c d f) ?_
 rintro q s ⟨k,rfl,l,x⟩
 have m:=(hS.c0 l).t0
 refine lv (rv_geq u u) (av u (nq (wc_ret ?_)))
 cases oi i
 exact ey results125 ⟨k,u,m⟩

theorem ok_impl_ConfOk {q0:GConf}{r:Bool}(hS:SH w K [] w K [])(ae:SliceAt tStr K A a b q0.Stops)(U:SliceAt tGSyn K B c d q0.Syns)(hm:M.impl_ConfOk F q0=some r):
  Calls prog 59 #[.agg #[V3 A a b,V3 B c d]] w (R_b w K r):=by
 rw [M.impl_ConfOk] at hm
 refine ci func59 u ntmps59 (sr (bx u hS fun f cu aO=>?_))
 have x:SH _ _ _ _ _ [obj f [V3 A a b,V3 B c d] 33]:=aO
 refine lv (r_f u) (ns (wc_seq ?_))
 obtain⟨aP,aQ,aR⟩:=ob hm
 refine wc_cutg (IV w K [] K [(1,pt f),(22,.bool aP)] [obj f [V3 A a b,V3 B c d] 33]) ?_ ?_
 ·refine wc_region (fl ff33_0 u tf22 m0 x u (lv (rv_len underlying22 u ae) (lv (rv_gtr u u) (mv u (bt aQ (fun i af=>?_) (fun i af=>?_))))))
  ·refine lu i (lu i (lu i (lu i (lv (p_t u i u) (mv u (lu u (lu u (lu u (lu u ?_)))))))))
   refine lv (p_t u u u) (wl_nil ?_)
   cases oi af
   exact qd ⟨K,u,x,kr⟩
  refine lg i (rv_fieldAddr ff33_0 u) (lg i (rv_loadm1 tf22 u m0 x u) ?_)
  obtain⟨cv,aS,aT⟩:=ob af
  refine wl_call (wg u u i) u (rt_call (vs:=[V3 A a b]) co122 u) (ok_impl_wordsAscend F x.enter0 ae aS) ?_
  rintro cw cx ⟨aE,rfl,V⟩
  refine⟨_,u,?_⟩
  have ag:=(x.c0 V).t1
  refine lg i (rv_not u) (lv (rv_pick_f u i u) (mv u (bt aT (fun k ah=>?_) (fun k ah=>?_))))
  ·refine lu k (lu k (lu k (lu k (lv (p_t u k u) (wl_nil ?_)))))
   cases oi ah
   exact qd ⟨aE,u,ag,V.le⟩
  refine lg k (rv_fieldAddr ff33_1 u) (lg k (rv_loadm1 tf31 u m0 ag u) (lg k (rv_len underlying31 u (U.mono V.le)) (lg k (rv_gtr u u) (lv (rv_pick_f u k u) (wl_nil ?_)))))
  cases oi ah
  exact qd ⟨aE,u,ag,V.le⟩
 rintro _ cy ⟨W,rfl,ai,X⟩
 refine qe_seq (wcc aR u (fun aU aj=>?_) (fun aU aj=>?_))
 ·refine sr (lv (r_f u) (nq (rr ?_)))
  cases oi aj
  exact ey results59 ⟨W,u,ai.s⟩
 refine wc_skip (qs (sr (fl ff33_1 u tf31 m0 ai u (lv (rv_len underlying31 u (U.mono X)) (lv (r_m u) (nq ?_))))))
 obtain⟨aV,aW,y⟩:=ob aj
 refine wc_cutg (IE aV w K [] W [] []) ?_ ?_
 ·refine wc_block ?_
  obtain⟨cz,aX,ak⟩:=ob aW
  refine qf (fun (s:Nat) (aF:Unit)=>IV w K [] W [(1,pt f),(24,V3 B c d),(25,V6 (q0.Syns.length:Int)),(26,V6 ((s:Nat):Int))] [obj f [V3 A a b,V3 B c d] 33]) aX ⟨W,u,ai,kr⟩ ?_ ?_
  ·rintro s aF _ aY cA hi53 aZ aG ⟨am,rfl,Y,C⟩
   refine sr (lv (rv_lss u u) (ns (wc_cond_t u (decide_eq_true (by omega)) (wc_skip (qe_seq (wc_seq (wc_block (sr ?_))))))))
   obtain⟨D,ba,bb⟩:=ob aZ
   refine li underlying31 tf159 (U.mono (X.trans C)) ba fun bc bd cB be bf=>?_
   obtain⟨G,H,I,rfl,J,an⟩:=be
   have bg:AtK _ bc bd [V3 G H I,sv D.To]:=bf
   refine lv (rv_loadS tf159 u Y bg u) (al tf159 Y fun ao cC bh=>?_)
   have bi:SH _ _ _ _ _ [obj ao [V3 none 0 0,sv []] 159,_]:=bh
   refine lw [V3 G H I,sv D.To] tf159 bi fun cD aH=>(ns (wc_seq ?_))
   obtain⟨bj,bk,bl⟩:=ob bb
   refine wc_cutg (IV w K [] am [(1,pt f),(4,pt ao),(24,V3 B c d),(25,V6 (q0.Syns.length:Int)),(26,V6 ((s:Nat):Int)),(48,.bool bj)] [obj f [V3 A a b,V3 B c d] 33,obj ao [V3 G H I,sv D.To] 159]) ?_ ?_
   ·refine wc_quiet mixed (by kernel_rfl) aH (kv (rv_fieldAddr ff159_0 u) (kh (rq_loadm1 tf22 u m0 u) (kv (rv_len underlying22 u J) ?_)))
    obtain⟨cE,bm,bn⟩:=ob bk
    refine kc co108 (fun _ _ bo cF=>(ok_impl_within F) bo.enter0 J.rn (by decide :rng64 1) (by decide :rng64 3) bm) (kv (rv_not u) (km u (bt bn (fun l ap=>?_) (fun l ap=>?_))))
    ·refine kn l (kn l (kn l (kn l (kv (p_t u l u) (km u ?_)))))
     iterate 6 refine qv u u u u ?_
     refine kv (p_t u u u) (wq_nil ?_)
     rintro cG ⟨bp,bq,br⟩
     cases oi ap
     exact qd ⟨bp,u,bq.f1,br⟩
    refine kg l (rv_fieldAddr ff159_1 u) (kgh l (rq_loadm1 tf9 u m0 u) ?_)
    obtain⟨cH,bs,bu⟩:=ob ap
    refine kcg l co123 (fun _ _ bv cI=>(ok_impl_WordOk F) bv.enter0 an bs) (kg l (rv_not u) (kv (rv_pick_f u l u) (km u (bt bu (fun q aq=>?_) (fun q aq=>?_)))))
    ·iterate 6 refine kn q ?_
     refine kv (p_t u q u) (wq_nil ?_)
     rintro cJ ⟨bz,bA,bB⟩
     cases oi aq
     exact qd ⟨bz,u,bA.f1,bB⟩
    refine kg q (rv_fieldAddr ff159_1 u) (kgh q (rq_loadm1 tf9 u m0 u) ?_)
    obtain⟨cK,aI,bC⟩:=ob aq
    refine kdg q co124 (fun _ _ bD cL=>(ok_impl_StemOf F) bD.enter0 an aI) ?_
    obtain⟨_,_,_,⟨_,_,_,cM⟩,_⟩:=(ok_impl_StemOf F) aH.enter0 an aI []
    refine kg q (rv_fieldAddr ff159_1 u) (kgh q (rq_loadm1 tf9 u m0 u) (kg q (rv_sneq u u) (kv (rv_pick_f u q u) (wq_nil ?_))))
    rintro cN ⟨bE,bF,bG⟩
    cases oi bC
    exact qd ⟨bE,u,bF.f1,bG⟩
   rintro _ cO ⟨aa,rfl,ar,O⟩
   refine qe_seq (wcc bl u (fun bH au=>?_) (fun bH au=>?_))
   ·refine sr (lv (r_f u) (nq (rr (qe_block_ret (qe_then_ret (qe_then_ret ?_))))))
    cases oi au
    cases aG _ u
    refine qe_block_ret (qe_then_ret ?_)
    cases oi ak
    refine qe_then_ret ?_
    cases oi y
    exact ey results59 ⟨aa,u,ar.s⟩
   refine wc_skip (qr (fl ff159_0 u tf22 m1 ar u (lv (rv_len underlying22 u (J.mono O)) (lv (r_m u) (nq ?_)))))
   obtain⟨bI,bJ,ab⟩:=ob au
   refine wc_cutg (IE bI w K [] aa [(1,pt f),(24,V3 B c d),(25,V6 (q0.Syns.length:Int)),(26,V6 ((s:Nat):Int))] [obj f [V3 A a b,V3 B c d] 33]) ?_ ?_
   ·refine wc_block ?_
    obtain⟨cP,bK,aJ⟩:=ob bJ
    have bL:=ar.sb (sk (sd sz))
    refine qf (fun (aw:Nat) (aK:Unit)=>IV w K [] aa [(1,pt f),(24,V3 B c d),(25,V6 (q0.Syns.length:Int)),(26,V6 ((s:Nat):Int)),(50,V3 G H I),(51,V6 (D.From.length:Int)),(52,V6 ((aw:Nat):Int))] [obj f [V3 A a b,V3 B c d] 33]) bK ⟨aa,u,bL,kr⟩ ?_ ?_
    ·rintro aw aK _ bM cQ hi147 bN bO ⟨ax,rfl,R,S⟩
     refine sr (lv (rv_lss u u) (ns (wc_cond_t u (decide_eq_true (by omega)) (wc_skip (qe_seq (wc_seq (wc_block (sr ?_))))))))
     obtain⟨ay,bP,bQ⟩:=ob bN
     refine li underlying22 tf9 (J.mono (O.trans S)) bP fun bR bS cR bT bU=>?_
     obtain⟨rfl,az⟩:=bT
     have bV:AtK _ bR bS [sv ay]:=bU
     refine lv (rv_load1 tf9 u R (bV 0 _ u)) (av u (ns ?_))
     obtain⟨bW,bX,bY⟩:=ob bQ
     refine wc_cutg (IV w K [] ax [(1,pt f),(24,V3 B c d),(25,V6 (q0.Syns.length:Int)),(26,V6 ((s:Nat):Int)),(50,V3 G H I),(51,V6 (D.From.length:Int)),(52,V6 ((aw:Nat):Int)),(70,.bool bW)] [obj f [V3 A a b,V3 B c d] 33]) ?_ ?_
     ·refine wc_region (mv u ?_)
      obtain⟨cS,bZ,ca⟩:=ob bX
      refine lk co123 (ok_impl_WordOk F R.enter0 az bZ) ?_
      rintro cT cU ⟨cb,rfl,T⟩
      have aA:=(R.c0 T).t1
      refine lv (rv_not u) (mv u (bt ca (fun m aB=>?_) (fun m aB=>?_)))
      ·refine lu m (lu m (lu m (lu m (lv (p_t u m u) (mv u (lu u (lu u (lu u (lu u ?_)))))))))
       refine lv (p_t u u u) (wl_nil ?_)
       cases oi aB
       exact qd ⟨cb,u,aA,T.le⟩
      refine lg m (rv_move u) ?_
      obtain⟨cV,cc,cd⟩:=ob aB
      refine wl_call (wg u u m) u (rt_call (vs:=[sv ay]) co124 u) (ok_impl_StemOf F aA.enter0 az cc) ?_
      rintro cW cX ⟨ce,rfl,ac,cY⟩
      refine⟨_,u,?_⟩
      have ad:=(aA.c0 ac).t1
      refine lg m (rv_move u) (lg m (rv_sneq u u) (lv (rv_pick_f u m u) (mv u (bt cd (fun o aC=>?_) (fun o aC=>?_)))))
      ·refine lu o (lu o (lu o (lu o (lv (p_t u o u) (wl_nil ?_)))))
       cases oi aC
       exact qd ⟨ce,u,ad,(T.le.trans ac.le)⟩
      refine lg o (rv_fieldAddr ff33_0 u) (lg o (rv_loadm1 tf22 u m0 ad u) (lg o (rv_move u) ?_))
      obtain⟨cZ,cf,cg⟩:=ob aC
      refine wl_call (wg u u o) u (rt_call (vs:=[V3 A a b,sv ay]) co125 u) (ok_slices_Contains_string F ad.enter0 (SliceAt.mono (((((X.trans C).trans O).trans S).trans T.le).trans ac.le) ae) az cf) ?_
      rintro da db ⟨ch,rfl,aL⟩
      refine⟨_,u,?_⟩
      have cj:=(ad.c0 aL).t1
      refine lv (rv_pick_f u o u) (wl_nil ?_)
      cases oi cg
      exact qd ⟨ch,u,cj,((T.le.trans ac.le).trans aL.le)⟩
     rintro _ dc ⟨aM,rfl,aN,ck⟩
     refine qe_seq (wcc bY u (fun cl aD=>?_) (fun cl aD=>?_))
     ·refine sr (lv (r_f u) (nq (wc_ret (qe_block_ret (qe_then_ret (qe_then_ret ?_))))))
      cases oi aD
      cases bO _ u
      refine qe_block_ret (qe_then_ret ?_)
      cases oi aJ
      refine qe_block_ret (qe_then_ret (qe_then_ret ?_))
      cases oi ab
      cases aG _ u
      refine qe_block_ret (qe_then_ret ?_)
      cases oi ak
      refine qe_then_ret ?_
      cases oi y
      exact ey results59 ⟨aM,u,aN.s⟩
     refine wc_skip (qe_block (qg (lv (rv_add_to u u (w64_succ hi147 (SliceAt.max (J.mono O)))) (mv u (wl_nil ?_)))))
     cases oi aD
     exact qd ⟨_,u,aM,u,aN,(S.trans ck)⟩
    rintro aK _ bM cm ⟨ax,rfl,R,S⟩
    subst cm
    refine sr (lv (rv_lss u u) (ns (wc_cond_f u (decide_eq_false (by omega)) (wc_exit (qe_then_exit (qe_then_exit (qe_block_eq ?_)))))))
    cases oi aJ
    exact qd ⟨_,ax,u,u,R,S⟩
   rintro _ dd ⟨de,cn,rfl,rfl,cp,cq⟩
   have ab:=elim_l ab
   refine qe_block (qg (lv (rv_add_to u u (w64_succ hi53 (SliceAt.max (U.mono X)))) (mv u (wl_nil ?_))))
   cases oi ab
   exact qd ⟨_,u,cn,u,cp,((C.trans O).trans cq)⟩
  rintro aF _ aY cr ⟨am,rfl,Y,C⟩
  subst cr
  refine sr (lv (rv_lss u u) (ns (wc_cond_f u (decide_eq_false (by omega)) (wc_exit (qe_then_exit (qe_then_exit (qe_block_eq ?_)))))))
  cases oi ak
  exact qe_mid' ⟨_,am,u,u,Y.s,C⟩ trivial
 rintro _ df ⟨dg,cs,rfl,rfl,ct,dh⟩
 have y:=elim_l y
 refine qr (lv (r_t u) (nq (wc_ret ?_)))
 cases oi y
 exact ey results59 ⟨cs,u,ct⟩

theorem ok_impl_cloneDoc {q0:GDoc}{r:GDoc}(hS:SH w K [] w K [])(G:rng64 q0.Id)(H:SliceAt tGField K A a b q0.Fields)(I:SliceAt tGAttr K B c d q0.Nums)(hm:M.impl_cloneDoc F q0=some r):
  Calls prog 147 #[.agg #[V6 q0.Id,V3 A a b,V3 B c d]] w fun e w'=>∃a_2 n_3 c_4 a_6 n_7 c_8 K',e= .returned (.agg #[V6 r.Id,V3 a_2 n_3 c_4,V3 a_6 n_7 c_8])∧SH w K [] w' K' [tail (V3 a_2 n_3 c_4) 108 2,tail (V3 a_6 n_7 c_8) 142 2]∧rng64 r.Id∧SliceAt tGField K' a_2 n_3 c_4 r.Fields∧SliceAt tGAttr K' a_6 n_7 c_8 r.Nums:=by
 rw [M.impl_cloneDoc] at hm
 refine ci func147 u ntmps147 (sr (bx u hS fun aC aX aE=>?_))
 have aF:SH _ _ _ _ _ [obj aC [V6 q0.Id,V3 A a b,V3 B c d] 77]:=aE
 refine al tf77 aF fun aG aY aH=>?_
 have aI:SH _ _ _ _ _ [obj aG [V6 0,V3 none 0 0,V3 none 0 0] 77,_]:=aH
 refine ns ?_
 obtain⟨aZ,J,aJ⟩:=ob hm
 obtain⟨ba,O,R⟩:=ob aJ
 have v:=aI.drew
 refine j_0 (fun w'=>Holds K w'∧HasObj aC [V6 q0.Id,V3 A a b,V3 B c d] w') 12 [] mixed ⟨v.hasK kr,v.hasObj m1⟩ (jv 0 u (rv_fieldAddr ff77_0 u) (jh 1 u (fun _ h=>rh_loadm1 tf3 u u h.2) (jv 3 u (rv_fieldAddr ff77_1 u) (jh 4 u (fun _ h=>rh_loadm1 tf74 u u h.2) (jv 7 u (rv_fieldAddr ff77_2 u) (jh 8 u (fun _ h=>rh_loadm1 tf75 u u h.2) (j2 2 6 u u ?_ ?_)))))))
 ·refine b0 tGField underlying74 tf108 v fun bb bc bd f aD x=>(j_o ⟨x.hasK f,x.hasObj m2⟩ (j2 5 6 u u ?_ ?_))
  ·refine lp underlying74 tf108 aD (H.mono f) J x fun S T U be bf m aK V=>(j_o ⟨V.hasK (f.trans m),V.hasObj m2⟩ (j1 6 u (b0 tGAttr underlying75 tf142 V fun bg bh bi o aL W=>(j_o ⟨W.hasK ((f.trans m).trans o),W.hasObj m3⟩ (j1 9 u (lp underlying75 tf142 aL (I.mono ((f.trans m).trans o)) O W fun X Y aa bj aM ab aN ac=>(j_o ⟨ac.hasK (((f.trans m).trans o).trans ab),ac.hasObj m3⟩ (jv 10 u (rv_build (cs:=#[V6 q0.Id,V3 S T U,V3 X Y aa]) sp77 tf77 u (by kernel_rfl)) (j1 11 u ?_)))))))))
   refine lw [V6 q0.Id,V3 S T U,V3 X Y aa] tf77 ac.f2 fun bk y=>(j_o ⟨y.hasK (((f.trans m).trans o).trans ab),y.hasObj m3⟩ (jd (qe_seq (wc_ret ?_))))
   cases oi R
   exact ez results147 tf77 y m0 ⟨S,T,U,X,Y,aa,aM,u,y.f1.f2.s,G,(aK.mono (o.trans ab)),aN⟩
  refine b0 tGAttr underlying75 tf142 x fun bl bm bn i aO ad=>(j_o ⟨ad.hasK (f.trans i),ad.hasObj m3⟩ (j1 5 u (lp underlying74 tf108 (aD.mono i) (H.mono (f.trans i)) J ad.f1 fun ae af ag bo bp q aP ah=>(j_o ⟨ah.hasK ((f.trans i).trans q),ah.hasObj m3⟩ (j1 9 u (lp underlying75 tf142 (aO.mono q) (I.mono ((f.trans i).trans q)) O ah.f1 fun ai aj ak bq aQ am aR an=>(j_o ⟨an.hasK (((f.trans i).trans q).trans am),an.hasObj m3⟩ (jv 10 u (rv_build (cs:=#[V6 q0.Id,V3 ae af ag,V3 ai aj ak]) sp77 tf77 u (by kernel_rfl)) (j1 11 u ?_)))))))))
  refine lw [V6 q0.Id,V3 ae af ag,V3 ai aj ak] tf77 an.f2 fun br C=>(j_o ⟨C.hasK (((f.trans i).trans q).trans am),C.hasObj m3⟩ (jd (qe_seq (wc_ret ?_))))
  cases oi R
  exact ez results147 tf77 C m0 ⟨ae,af,ag,ai,aj,ak,aQ,u,C.f1.f2.s,G,(aP.mono am),aR⟩
 refine b0 tGAttr underlying75 tf142 v fun bs bu bv k aS ao=>(j_o ⟨ao.hasK k,ao.hasObj m2⟩ (j1 2 u (b0 tGField underlying74 tf108 ao fun bz bA bB l aT ap=>(j_o ⟨ap.hasK (k.trans l),ap.hasObj m3⟩ (j1 5 u (lp underlying74 tf108 aT (H.mono (k.trans l)) J ap fun aq ar au bC bD s aU aw=>(j_o ⟨aw.hasK ((k.trans l).trans s),aw.hasObj m3⟩ (j1 9 u (lp underlying75 tf142 (aS.mono (l.trans s)) (I.mono ((k.trans l).trans s)) O aw.f1 fun ax ay az bE aV aA aW aB=>?_)))))))))
 refine j_o ⟨aB.hasK (((k.trans l).trans s).trans aA),aB.hasObj m3⟩ (jv 10 u (rv_build (cs:=#[V6 q0.Id,V3 aq ar au,V3 ax ay az]) sp77 tf77 u (by kernel_rfl)) (j1 11 u (lw [V6 q0.Id,V3 aq ar au,V3 ax ay az] tf77 aB.f2 fun bF D=>(j_o ⟨D.hasK (((k.trans l).trans s).trans aA),D.hasObj m3⟩ (jd (qe_seq (wc_ret ?_)))))))
 cases oi R
 exact ez results147 tf77 D m0 ⟨aq,ar,au,ax,ay,az,aV,u,D.f1.f2.s,G,(aU.mono aA),aW⟩

theorem own_impl_cloneDocs (F:Nat){w:World}{K:KMap}{a1:Option Addr}{n2 c3:Nat}{p0_list:List GDoc}{r:(List GDoc)}(hS:SH w K [] w K [])(hs4:SliceAt tGDoc K a1 n2 c3 p0_list)(hm:M.impl_cloneDocs F p0_list=some r):
  Calls Tryz.prog 72 #[.slice a1 n2 c3] w fun e w'=>∃(a_1:Option Addr) (n_2 c_3:Nat) (K':KMap) (f':List Nat),e= .returned (.slice a_1 n_2 c_3)∧SH w K [] w' K' [bag f']∧RowO oDoc K' f' (.slice a_1 n_2 c_3) r:=by
 rw [M.impl_cloneDocs] at hm
 refine calls_in Tryz.func72 rfl Tryz.ntmps72 rfl ?_
 refine sr ?_
 refine wl_val wn rfl (rv_assign (v:=.slice none 0 0) rfl) ?_
 refine nr ?_
 refine wl_buildSlice0 tGDoc wn rfl Tryz.underlying43 tf77 hS ?_
 intro a5 w6 K7 hl8 hs9 hS10
 refine va rfl rfl ?_
 refine nsr ?_
 refine vm rfl rfl ?_
 refine wl_val wn rfl (rv_len (t:=tGDoc) Tryz.underlying43 rfl (SliceAt.mono hl8 hs4)) ?_
 refine wl_val wn rfl (rv_move (v:=.int .i64 0) rfl) ?_
 refine nq ?_
 obtain⟨o11,h12,h13⟩:=ob hm
 refine wc_cutg (fun E' w'=>∃(a19:Option Addr) (n20 c21:Nat) (K14:KMap) (B19:List Nat),E'=[(3,.slice a19 n20 c21)]∧SH w K [] w' K14 [tail (.slice a19 n20 c21) 77 3,bag B19]∧KLe K7 K14∧OwnS oDoc K14 a19 n20 c21 B19 o11) ?_ ?_
 ·refine wc_block ?_
  obtain⟨r24,h25,h26⟩:=ob h12
  refine wc_forE' (fun (i27:Nat) (s23:(List GDoc)) E' w'=>∃(a32:Option Addr) (n33 c34:Nat) (K28:KMap) (B32:List Nat),E'=[(3,.slice a32 n33 c34),(7,.slice a1 n2 c3),(8,.int .i64 (p0_list.length:Int)),(9,.int .i64 ((i27:Nat):Int))]∧SH w K [] w' K28 [tail (.slice a32 n33 c34) 77 3,bag B32]∧KLe K7 K28∧OwnS oDoc K28 a32 n33 c34 B32 s23) h25 ⟨a5,0,0,K7,[],rfl,SH.bagAdd hS10,(KLe.refl _),OwnS.none (o:=oDoc) hs9⟩ ⟨rfl,rfl,rfl,rfl,trivial⟩ ?_ ?_
  ·rintro i27 s23 _ w30 r36 hi37 h38 ⟨a32,n33,c34,K28,B32,rfl,hS31,hl29,hs35⟩
   refine sr ?_
   refine wl_val wn rfl (rv_lss rfl rfl) ?_
   refine ns ?_
   refine wc_cond_t rfl (decide_eq_true (by omega)) (wc_skip (qe_seq (wc_seq ?_)))
   refine wc_block ?_
   refine sr ?_
   obtain⟨x40,hx41,h42⟩:=ob h38
   refine wl_indexAddr (t:=tGDoc) wn rfl Tryz.underlying43 tf77 rfl rfl (SliceAt.mono (hl8.trans hl29) hs4) hx41 ?_
   intro b43 o44 u45 hu46 ha47
   obtain⟨a49,n50,c51,a53,n54,c55,rfl,hr48,hs52,hs56⟩:=hu46
   have ha57:AtK _ b43 o44 [.int .i64 x40.Id,.slice a49 n50 c51,.slice a53 n54 c55]:=ha47
   refine wl_val wn rfl (rv_loadS (cs:=[.int .i64 x40.Id,.slice a49 n50 c51,.slice a53 n54 c55]) tf77 rfl hS31 ha57 rfl) ?_
   refine wl_alloc wn rfl tf77 hS31 ?_
   intro g58 w59 hS60
   have hS61:SH _ _ _ _ _ [obj g58 [.int .i64 0,.slice none 0 0,.slice none 0 0] 77,_,_]:=hS60
   refine wl_store (cs':=[.int .i64 x40.Id,.slice a49 n50 c51,.slice a53 n54 c55]) (v:=.agg #[.int .i64 x40.Id,.slice a49 n50 c51,.slice a53 n54 c55]) wn tf77 rfl rfl rfl (by simp [Value.cells,Value.oneCell']) hS61 rfl rfl ?_
   intro w62 hS63
   refine nq ?_
   refine wc_region ?_
   refine vm rfl rfl ?_
   refine wl_val wn rfl (rv_loadmS (ds:=[.int .i64 x40.Id,.slice a49 n50 c51,.slice a53 n54 c55]) tf77 rfl (.head _) hS63 rfl rfl) ?_
   obtain⟨r64,hx65,h66⟩:=ob h42
   refine wl_call wn rfl (rt_call (vs:=[.agg #[.int .i64 x40.Id,.slice a49 n50 c51,.slice a53 n54 c55]]) co147 rfl) ((ok_impl_cloneDoc F) hS63.enter0 hr48 hs52 hs56 hx65) ?_
   rintro e79 w68 ⟨a71,n72,c73,a75,n76,c77,K67,rfl,hS69,hr70,hs74,hs78⟩
   refine⟨_,rfl,?_⟩
   have hS80:SH _ _ _ _ _ [_,_,_,_,_]:=SH.call0 hS63 hS69
   obtain⟨fx0,hSx0,hox0⟩:=SH.ownDoc hS80 hr70 hs74 hs78
   refine wl_buildSlice (t:=oDoc.pair) (n:=1) (pv:=[(0,.agg #[.int .i64 r64.Id,.slice a71 n72 c73,.slice a75 n76 c77])]) (cs:=[.int .i64 r64.Id,.slice a71 n72 c73,.slice a75 n76 c77]) (xs:=[(r64,fx0)]) wn rfl Tryz.underlying43 tf77 rfl rfl rfl (by kernel_rfl) rfl rfl (lit_cons (u:=.agg #[.int .i64 r64.Id,.slice a71 n72 c73,.slice a75 n76 c77]) (z:=(r64,fx0)) hox0 lit_nil) hSx0 ?_
   intro a81 w82 K83 hl84 hs85 hS86
   have hS87:SH _ _ _ _ _ [_,_,_,_,_]:=SH.front (p:=[_,_,_]) hS86
   obtain⟨x88,hx89,h90⟩:=ob h66
   refine wl_appendO (o:=oDoc) wn rfl Tryz.underlying43 tf77 rfl rfl rfl rfl rfl (OwnS.mono hs35 (hS69.le.trans hl84)) (OwnS.one hs85) hx89 hS87 ?_
   intro a91 n92 c93 w94 K95 hl96 hs97 hS98
   refine va rfl rfl ?_
   refine nb ?_
   refine qg ?_
   refine wl_val wn rfl (rv_add_to rfl rfl (w64_succ hi37 (SliceAt.max (SliceAt.mono hl8 hs4)))) ?_
   refine vm rfl rfl ?_
   refine wl_nil ?_
   obtain rfl:=oi h90
   have hS99:=SH.bagEnd (SH.sublist (L':=[_,_,_]) hS98 (.cons_cons _ (.cons _ (.cons_cons _ (.cons _ (.cons_cons _ .slnil))))))
   exact qe_mid' ⟨a91,n92,c93,K95,(B32++fx0),rfl,hS99,(((hl29.trans hS69.le).trans hl84).trans hl96),hs97⟩ ⟨rfl,rfl,rfl,rfl,trivial⟩
  ·rintro s23 _ w30 hr100 ⟨a32,n33,c34,K28,B32,rfl,hS31,hl29,hs35⟩
   subst hr100
   refine sr ?_
   refine wl_val wn rfl (rv_lss rfl rfl) ?_
   refine ns ?_
   refine wc_cond_f rfl (decide_eq_false (by omega)) ?_
   refine wc_exit ?_
   refine qe_then_exit ?_
   refine qe_then_exit ?_
   refine qe_block_eq ?_
   obtain rfl:=oi h26
   exact qe_mid' ⟨a32,n33,c34,K28,B32,rfl,hS31,hl29,hs35⟩ ⟨rfl,trivial⟩
 ·rintro _ w17 ⟨a19,n20,c21,K14,B19,rfl,hS18,hl15,hs22⟩
  refine qr ?_
  refine vm rfl rfl ?_
  refine va rfl rfl ?_
  refine nq ?_
  refine wc_ret ?_
  obtain rfl:=oi h13
  obtain⟨ff0,hSf0,hRf0⟩:=SH.ownS hS18 hs22
  exact qe_ret (vs:=[_]) Tryz.results72 ⟨rfl,trivial⟩ ⟨a19,n20,c21,K14,ff0,rfl,hSf0,hRf0⟩

theorem ok_impl_lower {q0:UInt8}{r:UInt8}(hS:SH w K [] w K [])(hm:M.impl_lower F q0=some r):
  Calls prog 201 #[iv8 q0] w fun e w'=>∃K',e= .returned (iv8 r)∧SH w K [] w' K' []:=by
 rw [M.impl_lower] at hm
 refine ci func201 u ntmps201 (sr (lv (rv_assign (v:=iv8 0) u) (ns (wc_seq ?_))))
 obtain⟨k,l,m⟩:=ob hm
 refine wc_cutg (IV w K [] K [(0,iv8 q0),(8,.bool k)] []) ?_ ?_
 ·refine wc_region (mv u (lv (rv_bge (b:=(65:UInt8)) u u) (mv u (bt l (fun a c=>?_) (fun a c=>?_)))))
  ·refine lg a (rv_move u) (lg a (rv_ble (b:=(90:UInt8)) u u) (lv (rv_pick_t u a u) (wl_nil ?_)))
   cases oi c
   exact qd ⟨K,u,hS,kr⟩
  refine lu a (lu a (lv (p_f u a u) (wl_nil ?_)))
  cases oi c
  exact qd ⟨K,u,hS,kr⟩
 rintro _ q ⟨f,rfl,i,s⟩
 refine qe_seq (wcc m u (fun o d=>?_) (fun o d=>?_))
 ·refine sr (mv u (lv (rv_badd (b:=(97:UInt8)) u u) (lv (rv_bsub (b:=(65:UInt8)) u u) (av u (nq (rr ?_))))))
  cases oi d
  exact ey results201 ⟨f,u,i⟩
 refine wc_skip (qr (mv u (av u (nq (wc_ret ?_)))))
 cases oi d
 exact ey results201 ⟨f,u,i⟩

theorem ok_impl_WordsOf {q0:Str}{r:(List GWord)}(hS:SH w K [] w K [])(aI:q0.length≤maxLen)(hm:M.impl_WordsOf F q0=some r):
  Calls prog 149 #[sv q0] w fun e w'=>∃a_1 n_2 c_3 K',e= .returned (V3 a_1 n_2 c_3)∧SH w K [] w' K' [tail (V3 a_1 n_2 c_3) 183 4]∧SliceAt tGWord K' a_1 n_2 c_3 r:=by
 rw [M.impl_WordsOf] at hm
 refine ci func149 u ntmps149 (sr (lv (r_n u) (nr (b0 tGWord underlying180 tf183 hS fun a2 w3 K4 cp an ao=>(av u (nsr (mv u ?_)))))))
 obtain⟨r8,aJ,aK⟩:=ob hm
 refine lk co148 (ok_impl_TextOk F ao.enter0 aI aJ) ?_
 rintro cr ct ⟨J,rfl,W⟩
 have ap:=(ao.c0 W).t1
 refine lv (rv_not u) (nq (wcc aK u (fun aL X=>?_) (fun aL X=>?_)))
 ·refine sr (mv u (av u (nq (rr ?_))))
  cases oi X
  exact ey results149 ⟨a2,0,0,J,u,ap,(an.mono W.le)⟩
 refine wc_skip (qs (sr (lv (r_0 u) (nq ?_))))
 obtain⟨aM,aN,aO⟩:=ob X
 refine wc_cutg (fun E' w'=>∃A B C D,E'=[(3,V3 A B C)]∧SH w K [] w' D [tail (V3 A B C) 183 4]∧KLe J D∧SliceAt tGWord D A B C aM) ?_ ?_
 ·refine wc_block ?_
  obtain⟨cu,aP,aQ⟩:=ob aN
  refine qw (fun (a:(List GWord)×Int) E' w'=>∃c d f G,E'=[(0,sv q0),(3,V3 c d f),(4,V6 a.2)]∧SH w K [] w' G [tail (V3 c d f) 183 4]∧KLe J G∧SliceAt tGWord G c d f a.1∧rng64 a.2) aP ⟨a2,0,0,J,u,ap,kr,(an.mono W.le),d_0⟩ ?_
  rintro a _ cv cw aR aS ⟨c,d,f,G,rfl,Y,aa,H,aq⟩
  refine wc_seq (sr (mv u (mv u (lv (rv_slen underlying9 u) (lv (rv_lss u u) (nq (wcc aR u (fun aT ab=>?_) (fun aT ab=>?_))))))))
  ·refine wc_skip (qe_seq (wc_block (wc_seq (sr (mv u (mv u ?_))))))
   obtain⟨cx,aU,aV⟩:=ob ab
   refine lv (rv_sidx underlying9 u u aU) ?_
   obtain⟨cy,aW,aX⟩:=ob aV
   refine lk co201 (ok_impl_lower F Y.enter0 aW) ?_
   rintro cz cA ⟨cB,rfl,o⟩
   have ar:=(Y.c0 o).t1
   obtain⟨cC,aY,aZ⟩:=ob aX
   refine lk co185 (ok_impl_wordByte F ar.enter0 aY) ?_
   rintro cD cE ⟨ba,rfl,q⟩
   have au:=(ar.c0 q).t1
   refine lv (rv_not u) (nq (wcc aZ u (fun bb ac=>?_) (fun bb ac=>?_)))
   ·refine sr (mv u (lv (rv_add u u) (av u (nq (wc_exit (qe_then_exit (qe_block_eq ?_)))))))
    cases oi ac
    exact qd ⟨_,u,c,d,f,ba,u,au,((aa.trans o.le).trans q.le),(H.mono (o.le.trans q.le)),(w64_rng _)⟩
   refine wc_skip (qr (mv u (lv (rv_len underlying180 u (H.mono (o.le.trans q.le))) (mv u (lv (rv_build (cs:=#[sv [],V6 (a.1.length:Int),V6 a.2,V6 0]) sp183 tf183 u (by kernel_rfl)) (al tf183 au fun s cF bc=>?_))))))
   have bd:SH _ _ _ _ _ [obj s [sv [],V6 0,V6 0,V6 0] 183,_]:=bc
   refine ls [sv [],V6 (a.1.length:Int),V6 a.2,V6 0] (.agg #[sv [],V6 (a.1.length:Int),V6 a.2,V6 0]) tf183 bd fun cG be=>(nr (b0 tU8 underlying69 tf5 be fun bf cH ad aw bg bh=>(av u (ns ?_))))
   obtain⟨b,bi,bj⟩:=ob ac
   refine wc_cutg (fun E' w'=>∃O R S T,E'=[(0,sv q0),(3,V3 c d f),(4,V6 b.1),(5,pt s),(6,V3 O R S)]∧SH w K [] w' T [obj s [sv [],V6 (a.1.length:Int),V6 a.2,V6 0] 183,tail (V3 c d f) 183 4,tail (V3 O R S) 5 1]∧KLe ad T∧rng64 b.1∧SliceAt tU8 T O R S b.2) ?_ ?_
   ·refine wc_block ?_
    obtain⟨cI,bk,bl⟩:=ob bi
    refine qw (fun (I:Int×(List UInt8)) E' w'=>∃k l m y,E'=[(0,sv q0),(3,V3 c d f),(4,V6 I.1),(5,pt s),(6,V3 k l m)]∧SH w K [] w' y [obj s [sv [],V6 (a.1.length:Int),V6 a.2,V6 0] 183,tail (V3 c d f) 183 4,tail (V3 k l m) 5 1]∧KLe ad y∧rng64 I.1∧SliceAt tU8 y k l m I.2) bk ⟨bf,0,0,ad,u,bh.f2.f2,kr,aq,bg⟩ ?_
    rintro I _ cJ cK bm bn ⟨k,l,m,y,rfl,ae,af,bo,U⟩
    refine wc_seq (wc_seq ?_)
    obtain⟨bp,bq,br⟩:=ob bm
    refine wc_cutg (IV w K [] y [(0,sv q0),(3,V3 c d f),(4,V6 I.1),(5,pt s),(6,V3 k l m),(39,.bool bp)] [obj s [sv [],V6 (a.1.length:Int),V6 a.2,V6 0] 183,tail (V3 c d f) 183 4,tail (V3 k l m) 5 1]) ?_ ?_
    ·refine wc_region (mv u (mv u (lv (rv_slen underlying9 u) (lv (rv_lss u u) (mv u (bt bq (fun i ag=>?_) (fun i ag=>?_)))))))
     ·refine lg i (rv_move u) (lg i (rv_move u) ?_)
      obtain⟨bs,bu,bv⟩:=ob ag
      refine lg i (rv_sidx underlying9 u u bu) ?_
      obtain⟨bx,bz,bA⟩:=ob bv
      refine wl_call (wg u u i) u (rt_call (vs:=[iv8 bs]) co201 u) (ok_impl_lower F ae.enter0 bz) ?_
      rintro cL cM ⟨cN,rfl,ax⟩
      refine⟨_,u,?_⟩
      have ay:=(ae.c0 ax).t3
      obtain⟨cO,bB,bC⟩:=ob bA
      refine wl_call (wg u u i) u (rt_call (vs:=[iv8 bx]) co185 u) (ok_impl_wordByte F ay.enter0 bB) ?_
      rintro cP cQ ⟨bD,rfl,az⟩
      refine⟨_,u,?_⟩
      have bE:=(ay.c0 az).t3
      refine lv (rv_pick_t u i u) (wl_nil ?_)
      cases oi bC
      exact qd ⟨bD,u,bE,(ax.le.trans az.le)⟩
     iterate 5 refine lu i ?_
     refine lv (p_f u i u) (wl_nil ?_)
     cases oi ag
     exact qd ⟨y,u,ae,kr⟩
    rintro _ cR ⟨aA,rfl,V,x⟩
    refine qe_seq (wcc br u (fun bF ah=>?_) (fun bF ah=>?_))
    ·refine wc_skip (qe_seq (wc_block (wc_seq (sr (mv u (lv (rv_len underlying69 u (U.mono x)) (lv (rv_lss u u) (nq (wcc ah u (fun bG ai=>?_) (fun bG ai=>?_))))))))))
     ·refine wc_region (mv u (mv u (mv u ?_)))
      obtain⟨cS,bH,bI⟩:=ob ai
      refine lv (rv_sidx underlying9 u u bH) ?_
      obtain⟨aj,bJ,bK⟩:=ob bI
      refine lk co201 (ok_impl_lower F V.enter0 bJ) ?_
      rintro cT cU ⟨cV,rfl,ak⟩
      have bL:=(V.c0 ak).t3
      refine lb tU8 (iv8 aj) [iv8 aj] aj underlying69 tf5 u bL fun cW cX cY aB bM bN=>?_
      obtain⟨cZ,bO,bP⟩:=ob bK
      refine lp underlying69 tf5 (U.mono ((x.trans ak.le).trans aB)) bM bO bN.f3 fun bQ bR bS da bT bU bV bW=>(av u (nq (wc_region (mv u (lv (rv_add u u) (av u (nb ?_)))))))
      cases oi bP
      exact qd ⟨_,u,bQ,bR,bS,bT,u,bW.f3.f3.s,((((af.trans x).trans ak.le).trans aB).trans bU),(w64_rng _),bV⟩
     refine wc_skip (qe_seq (wc_region (mv u (lv (rv_add u u) (av u (nb ?_))))))
     cases oi ai
     exact qd ⟨_,u,k,l,m,aA,u,V,(af.trans x),(w64_rng _),(U.mono x)⟩
    refine wc_exit (qe_then_exit (qe_then_exit ?_))
    cases oi ah
    cases bn _ u
    refine qe_block_eq ?_
    cases oi bl
    exact qd ⟨k,l,m,aA,u,V,(af.trans x),bo,(U.mono x)⟩
   rintro _ db ⟨O,R,S,T,rfl,aC,aD,aE,aF⟩
   refine qr (mv u (lv (rv_b2s underlying69 underlying5 underlying9 u aF aC) (mv u (fa ff183_0 u (ls [sv b.2,V6 (a.1.length:Int),V6 a.2,V6 0] (sv b.2) tf9 aC fun dc bX=>(fa ff183_3 u (ls [sv b.2,V6 (a.1.length:Int),V6 a.2,V6 b.1] (V6 b.1) tf3 bX fun dd aG=>(nq (wc_region ?_)))))))))
   refine mv u (lv (rv_loadmS (ds:=[sv b.2,V6 (a.1.length:Int),V6 a.2,V6 b.1]) tf183 u m0 aG u u) (lb tGWord (.agg #[sv b.2,V6 (a.1.length:Int),V6 a.2,V6 b.1]) [sv b.2,V6 (a.1.length:Int),V6 a.2,V6 b.1] (GWord.mk b.2 (a.1.length:Int) a.2 b.1) underlying180 tf183 ⟨u,(SliceAt.max aF),(H.mono (o.le.trans q.le)).rn,aq,aE⟩ aG fun de df dg aH bY bZ=>?_))
   obtain⟨dh,ca,cb⟩:=ob bj
   refine lp underlying180 tf183 (SliceAt.mono ((((o.le.trans q.le).trans aw).trans aD).trans aH) H) bY ca bZ.f2 fun cc cd ce di cf cg ch cj=>(av u (nb ?_))
   cases oi cb
   exact qd ⟨_,u,cc,cd,ce,cf,u,cj.s,((((((aa.trans o.le).trans q.le).trans aw).trans aD).trans aH).trans cg),ch,aE⟩
  refine wc_exit (qe_then_exit (qe_then_exit ?_))
  cases oi ab
  cases aS _ u
  refine qe_block_eq ?_
  cases oi aQ
  exact qd ⟨c,d,f,G,u,Y,aa,H⟩
 rintro _ dj ⟨A,B,C,D,rfl,ck,dk,cl⟩
 refine qr (mv u (av u (nq (wc_ret ?_))))
 cases oi aO
 exact ey results149 ⟨A,B,C,D,u,ck,cl⟩

theorem ok_impl_ruleAt {q0:GConf}{q1:List GTerm}{q2:Int}{r:(Option GSyn)}(hS:SH w K [] w K [])(ch:SliceAt tStr K A a b q0.Stops)(J:SliceAt tGSyn K B c d q0.Syns)(ac:SliceAt tGTerm K C f i q1)(cj:rng64 q2)(hm:M.impl_ruleAt F q0 q1 q2=some r):
  Calls prog 150 #[.agg #[V3 A a b,V3 B c d],V3 C f i,V6 q2] w fun e w'=>∃v_1 K',e= .returned (v_1)∧SH w K [] w' K' []∧PtrO tGSyn K' v_1 r:=by
 rw [M.impl_ruleAt] at hm
 refine ci func150 u ntmps150 (sr (bx u hS fun s ck ax=>?_))
 have ao:SH _ _ _ _ _ [obj s [V3 A a b,V3 B c d] 33]:=ax
 refine lv (rv_assign (v:=.pointer none) u) (nr (lv (rv_assign (v:=.pointer none) u) (nsr (fl ff33_1 u tf31 m0 ao u (lv (rv_len underlying31 u J) (lv (r_m u) (nq ?_)))))))
 obtain⟨ay,az,aA⟩:=ob hm
 refine wc_cutg (fun E' w'=>∃v25 O,E'=[(7,v25)]∧SH w K [] w' O []∧KLe K O∧PtrO tGSyn O v25 ay) ?_ ?_
 ·refine wc_block ?_
  obtain⟨cl,aB,aC⟩:=ob az
  refine qF (fun (R:Nat) (ad:(Option GSyn)) E' w'=>∃v36 G,E'=[(1,V3 C f i),(2,V6 q2),(3,pt s),(7,v36),(16,V6 (q0.Syns.length:Int)),(17,V6 ((R:Nat):Int))]∧SH w K [] w' G [obj s [V3 A a b,V3 B c d] 33]∧KLe K G∧PtrO tGSyn G v36 ad) aB ⟨(.pointer none),K,u,ao,kr,(show PtrO tGSyn _ _ none from u)⟩ ?_ ?_
  ·rintro R ad _ aD cm hi39 aE ⟨v36,G,rfl,U,x,hp37⟩
   refine sr (lv (rv_lss u u) (ns (wc_cond_t u (decide_eq_true (by omega)) (wc_skip (qe_seq (wc_seq (wc_block (sr (mv u (av u (nr (fl ff33_1 u tf31 m0 U u ?_))))))))))))
   refine mv u ?_
   obtain⟨ae,aF,aG⟩:=ob aE
   refine li underlying31 tf159 (J.mono x) aF fun H I cn aH aI=>?_
   obtain⟨V,W,X,rfl,y,aJ⟩:=aH
   have Y:AtK _ H I [V3 V W X,sv ae.To]:=aI
   refine av u (ns (wc_seq ?_))
   obtain⟨aK,aL,aM⟩:=ob aG
   refine wc_cutg (IV w K [] G [(1,V3 C f i),(2,V6 q2),(3,pt s),(7,v36),(9,.pointer (some ⟨H,I,none⟩)),(16,V6 (q0.Syns.length:Int)),(17,V6 ((R:Nat):Int)),(50,.bool aK)] [obj s [V3 A a b,V3 B c d] 33]) ?_ ?_
   ·refine wc_quiet mixed (by kernel_rfl) U (km u (kv (rv_nilCheck u) (kv (rv_fieldAddr ff159_0 u) (kh (rq_load1 tf22 u (Y 0 _ u)) (kv (rv_len underlying22 u y) (km u (kv (rv_len underlying109 u (ac.mono x)) (km u (kv (rv_sub u u) ?_)))))))))
    refine kv (rv_gtr u u) (km u (bt aL (fun o af=>?_) (fun o af=>?_)))
    ·refine kn o (kn o (kn o ?_))
     iterate 11 refine ku ?_
     refine kn o (kv (p_t u o u) (wq_nil ?_))
     rintro cp ⟨aN,aO,aP⟩
     cases oi af
     exact qd ⟨aN,u,aO,aP⟩
    refine kg o (rv_move u) (kg o (rv_pnotnil underlying184 u u hp37) (kg o (rv_move u) (bt af (fun k ag=>?_) (fun k ag=>?_))))
    ·refine kg k (rv_move u) (kg k (rv_nilCheck u) (kg k (rv_fieldAddr ff159_0 u) (kgh k (rq_load1 tf22 u (Y 0 _ u)) (kg k (rv_len underlying22 u y) (kg k (rv_move u) ?_)))))
     obtain⟨aQ,aR,aS⟩:=ob ag
     obtain⟨aT,aU,cq,rfl,aV,aW⟩:=PtrO.get hp37 aR
     obtain⟨aX,aY,aZ,rfl,ba,cr⟩:=aV
     have bb:AtK _ aT aU [V3 aX aY aZ,sv aQ.To]:=aW
     refine kg k (rv_nilCheck u) (kg k (rv_fieldAddr ff159_0 u) (kgh k (rq_load1 tf22 u (bb 0 _ u)) (kg k (rv_len underlying22 u ba) (kg k (rv_leq u u) (kg o (rv_pick_t u k u) (kv (rv_pick_f u o u) (wq_nil ?_)))))))
     rintro cs ⟨bc,bd,be⟩
     cases oi aS
     exact qd ⟨bc,u,bd,be⟩
    iterate 11 refine kn k ?_
    refine kg o (p_f u k u) (kv (rv_pick_f u o u) (wq_nil ?_))
    rintro ct ⟨bf,bg,bh⟩
    cases oi ag
    exact qd ⟨bf,u,bg,bh⟩
   rintro _ cu ⟨aa,rfl,ah,l⟩
   refine qe_seq (wcc aM u (fun bi ai=>?_) (fun bi ai=>?_))
   ·refine wc_exit (qe_then_exit (qe_block_eq (qg (lv (rv_add_to u u (w64_succ hi39 (SliceAt.max J))) (mv u (wl_nil ?_))))))
    cases oi ai
    exact qd ⟨v36,aa,u,ah,(x.trans l),(PtrO.mono l hp37)⟩
   refine wc_skip (qr (lv (r_t u) (nsr (mv u (lv (rv_nilCheck u) (fa ff159_0 u (lv (rv_load1 tf22 u ah ((AtK.mono l Y) 0 _ u)) (lv (rv_len underlying22 u (y.mono l)) (lv (r_m u) ?_)))))))))
   refine nq ?_
   obtain⟨bj,bk,bl⟩:=ob ai
   refine wc_cutg (IV w K [] aa [(1,V3 C f i),(2,V6 q2),(3,pt s),(7,v36),(9,.pointer (some ⟨H,I,none⟩)),(10,.bool bj),(16,V6 (q0.Syns.length:Int)),(17,V6 ((R:Nat):Int))] [obj s [V3 A a b,V3 B c d] 33]) ?_ ?_
   ·refine wc_block ?_
    obtain⟨cv,bm,bn⟩:=ob bk
    refine qF (fun (ap:Nat) (aj:Bool)=>IV w K [] aa [(1,V3 C f i),(2,V6 q2),(3,pt s),(7,v36),(9,.pointer (some ⟨H,I,none⟩)),(10,.bool aj),(16,V6 (q0.Syns.length:Int)),(17,V6 ((R:Nat):Int)),(54,V3 V W X),(55,V6 (ae.From.length:Int)),(56,V6 ((ap:Nat):Int))] [obj s [V3 A a b,V3 B c d] 33]) bm ⟨aa,u,ah,kr⟩ ?_ ?_
    ·rintro ap aj _ bo cw hi112 bp ⟨aq,rfl,S,D⟩
     refine sr (lv (rv_lss u u) (ns (wc_cond_t u (decide_eq_true (by omega)) (wc_skip (qe_seq (wc_seq (wc_block (sr (mv u ?_)))))))))
     obtain⟨bq,br,bs⟩:=ob bp
     refine li underlying22 tf9 (y.mono (l.trans D)) br fun bu bv cx bz bA=>?_
     obtain⟨rfl,cy⟩:=bz
     have bB:AtK _ bu bv [sv bq]:=bA
     refine lv (rv_load1 tf9 u S (bB 0 _ u)) (av u (av u (nr (mv u (mv u (mv u (lv (rv_add u u) ?_)))))))
     obtain⟨ab,bC,bD⟩:=ob bs
     refine li underlying109 tf112 (ac.mono ((x.trans l).trans D)) bC fun bE bF cz bG bH=>?_
     obtain⟨rfl,cA,cB⟩:=bG
     have bI:AtK _ bE bF [sv ab.Text,V6 ab.At]:=bH
     refine lv (rv_loadS tf112 u S bI u) (al tf112 S fun bJ cC bK=>?_)
     have bL:SH _ _ _ _ _ [obj bJ [sv [],V6 0] 112,_]:=bK
     refine lw [sv ab.Text,V6 ab.At] tf112 bL fun cD bM=>(nq (wc_quiet mixed (by kernel_rfl) bM (km u (km u (bt bD (fun q ak=>?_) (fun q ak=>?_))))))
     ·refine kg q (rv_fieldAddr ff112_0 u) (kgh q (rq_loadm1 tf9 u m0 u) (kg q (rv_move u) (kg q (rv_seql u u) (kv (rv_pick_t u q u) (km u (bt ak (fun m am=>?_) (fun m am=>?_)))))))
      ·refine kg m (rv_fieldAddr ff112_1 u) (kgh m (rq_loadm1 tf3 u m0 u) (kg m (rv_move u) (kg m (rv_move u) ?_)))
       obtain⟨ar,bN,bO⟩:=ob am
       refine wq_indexAddr (t:=tGTerm) (wg u u m) u underlying109 tf112 u u (ac.mono ((x.trans l).trans D)) bN fun bP bQ cE bR bS=>?_
       obtain⟨rfl,cF,cG⟩:=bR
       have bT:AtK _ bP bQ [sv ar.Text,V6 ar.At]:=bS
       refine kg m (rv_fieldAddr ff112_1 u) (kgh m (rq_load1 tf3 u (bT 1 _ u)) (kg m (rv_move u) (kg m (rv_add u u) (kg m (rv_eql u u) (kv (rv_pick_t u m u) (kv (rv_assign u) (wq_nil ?_)))))))
       rintro cH ⟨bU,bV,bW⟩
       refine qe_block (qg (lv (rv_add_to u u (w64_succ hi112 (SliceAt.max (y.mono l)))) (mv u (wl_nil ?_))))
       cases oi bO
       exact qd ⟨bU,u,bV.s,(D.trans bW)⟩
      iterate 10 refine kn m ?_
      refine kv (p_f u m u) (kv (rv_assign u) (wq_nil ?_))
      rintro cI ⟨bX,bY,bZ⟩
      refine qe_block (qg (lv (rv_add_to u u (w64_succ hi112 (SliceAt.max (y.mono l)))) (mv u (wl_nil ?_))))
      cases oi am
      exact qd ⟨bX,u,bY.s,(D.trans bZ)⟩
     refine kn q (kn q (kn q (kn q (kv (p_f u q u) (km u ?_)))))
     iterate 10 refine qv u u u u ?_
     refine kv (p_f u u u) (kv (rv_assign u) (wq_nil ?_))
     rintro cJ ⟨ca,cb,cc⟩
     refine qe_block (qg (lv (rv_add_to u u (w64_succ hi112 (SliceAt.max (y.mono l)))) (mv u (wl_nil ?_))))
     cases oi ak
     exact qd ⟨ca,u,cb.s,(D.trans cc)⟩
    rintro aj _ bo cd ⟨aq,rfl,S,D⟩
    subst cd
    refine sr (lv (rv_lss u u) (ns (wc_cond_f u (decide_eq_false (by omega)) (wc_exit (qe_then_exit (qe_then_exit (qe_block_eq ?_)))))))
    cases oi bn
    exact qd ⟨aq,u,S,D⟩
   rintro _ cK ⟨au,rfl,aw,T⟩
   refine qr (mv u (nq (wcc bl u (fun ce an=>?_) (fun ce an=>?_))))
   ·refine wc_region (mv u (av u (nb (qg (lv (rv_add_to u u (w64_succ hi39 (SliceAt.max J))) (mv u (wl_nil ?_)))))))
    cases oi an
    exact qd ⟨(.pointer (some ⟨H,I,none⟩)),au,u,aw,((x.trans l).trans T),⟨H,I,.agg #[V3 V W X,sv ae.To],u,⟨V,W,X,u,(y.mono (l.trans T)),aJ⟩,(AtK.mono (l.trans T) Y)⟩⟩
   refine wc_skip (qe_block (qg (lv (rv_add_to u u (w64_succ hi39 (SliceAt.max J))) (mv u (wl_nil ?_)))))
   cases oi an
   exact qd ⟨v36,au,u,aw,((x.trans l).trans T),(PtrO.mono (l.trans T) hp37)⟩
  rintro ad _ aD cf ⟨v36,G,rfl,U,x,hp37⟩
  subst cf
  refine sr (lv (rv_lss u u) (ns (wc_cond_f u (decide_eq_false (by omega)) (wc_exit (qe_then_exit (qe_then_exit (qe_block_eq ?_)))))))
  cases oi aC
  exact qd ⟨v36,G,u,U.s,x,hp37⟩
 rintro _ cL ⟨v25,O,rfl,cg,cM,hp26⟩
 refine qr (mv u (av u (nq (wc_ret ?_))))
 cases oi aA
 exact ey results150 ⟨v25,O,u,cg,hp26⟩

theorem ok_impl_TermsOf {q0:GConf}{q1:Str}{r:(List GTerm)}(hS:SH w K [] w K [])(aj:SliceAt tStr K A a b q0.Stops)(aS:SliceAt tGSyn K B c d q0.Syns)(aT:q1.length≤maxLen)(hm:M.impl_TermsOf F q0 q1=some r):
  Calls prog 73 #[.agg #[V3 A a b,V3 B c d],sv q1] w fun e w'=>∃a_1 n_2 c_3 K',e= .returned (V3 a_1 n_2 c_3)∧SH w K [] w' K' [tail (V3 a_1 n_2 c_3) 112 2]∧SliceAt tGTerm K' a_1 n_2 c_3 r:=by
 rw [M.impl_TermsOf] at hm
 refine ci func73 u ntmps73 (sr (bx u hS fun i dR bk=>?_))
 have bl:SH _ _ _ _ _ [obj i [V3 A a b,V3 B c d] 33]:=bk
 refine lv (r_n u) (nr (b0 tGTerm underlying109 tf112 bl fun k dS bm J aU az=>(av u (ns (wc_seq ?_)))))
 obtain⟨bn,bo,bp⟩:=ob hm
 refine wc_cutg (IV w K [] bm [(1,sv q1),(2,pt i),(5,V3 k 0 0),(20,.bool bn)] [obj i [V3 A a b,V3 B c d] 33,tail (V3 k 0 0) 112 2]) ?_ ?_
 ·refine wc_region (lv (rv_loadmS (ds:=[V3 A a b,V3 B c d]) tf33 u m1 az u u) ?_)
  obtain⟨dT,bq,br⟩:=ob bo
  refine lk co59 (ok_impl_ConfOk F az.enter0 (aj.mono J) (aS.mono J) bq) ?_
  rintro dU dV ⟨bs,rfl,aA⟩
  have aB:=(az.c0 aA).t2
  refine lv (rv_not u) (mv u (bt br (fun l aC=>?_) (fun l aC=>?_)))
  ·refine lu l (lu l (lu l (lv (p_t u l u) (wl_nil ?_))))
   cases oi aC
   exact qd ⟨bs,u,aB.f1,aA.le⟩
  refine lg l (rv_move u) ?_
  obtain⟨dW,bu,bv⟩:=ob aC
  refine wl_call (wg u u l) u (rt_call (vs:=[sv q1]) co148 u) (ok_impl_TextOk F aB.enter0 aT bu) ?_
  rintro dX dY ⟨bz,rfl,aV⟩
  refine⟨_,u,?_⟩
  have bA:=(aB.c0 aV).t2
  refine lg l (rv_not u) (lv (rv_pick_f u l u) (wl_nil ?_))
  cases oi bv
  exact qd ⟨bz,u,bA.f1,(aA.le.trans aV.le)⟩
 rintro _ dZ ⟨bB,rfl,aW,O⟩
 refine qe_seq (wcc bp u (fun bC aD=>?_) (fun bC aD=>?_))
 ·refine sr (mv u (av u (nq (rr ?_))))
  cases oi aD
  exact ey results73 ⟨k,0,0,bB,u,aW.s,(aU.mono O)⟩
 refine wc_skip (qr (b0 tGTerm underlying109 tf112 aW fun bD ea eb Y bE aX=>(av u (nsr (mv u ?_)))))
 obtain⟨aY,bF,bG⟩:=ob aD
 refine lk co149 (ok_impl_WordsOf F aX.enter0 aT bF) ?_
 rintro ec ed ⟨aZ,ba,bb,aE,rfl,y,ak⟩
 have bH:=(aX.c0 y).t4
 refine lv (rv_len underlying180 u ak) (lv (r_m u) (nq ?_))
 obtain⟨bI,bJ,bK⟩:=ob bG
 refine wc_cutg (fun E' w'=>∃R S T C,E'=[(2,pt i),(5,V3 k 0 0),(6,V3 R S T)]∧SH w K [] w' C [obj i [V3 A a b,V3 B c d] 33,tail (V3 k 0 0) 112 2,tail (V3 R S T) 112 2]∧KLe aE C∧SliceAt tGTerm C R S T bI) ?_ ?_
 ·refine wc_block ?_
  obtain⟨ee,bL,bM⟩:=ob bJ
  have bN:=bH.f1.f3.f3.sb (sk (sk (sk (sd sz))))
  refine qF (fun (aF:Nat) (aG:(List GTerm)) E' w'=>∃m o q U,E'=[(2,pt i),(5,V3 k 0 0),(6,V3 m o q),(24,V3 aZ ba bb),(25,V6 (aY.length:Int)),(26,V6 ((aF:Nat):Int))]∧SH w K [] w' U [obj i [V3 A a b,V3 B c d] 33,tail (V3 k 0 0) 112 2,tail (V3 m o q) 112 2]∧KLe aE U∧SliceAt tGTerm U m o q aG) bL ⟨bD,0,0,aE,u,bN,kr,(bE.mono y.le)⟩ ?_ ?_
  ·rintro aF aG _ bO ef hi97 bP ⟨m,o,q,U,rfl,am,D,an⟩
   refine sr (lv (rv_lss u u) (ns (wc_cond_t u (decide_eq_true (by omega)) (wc_skip (qe_seq (wc_seq (wc_block (sr ?_))))))))
   obtain⟨f,bQ,bR⟩:=ob bP
   refine li underlying180 tf183 (ak.mono D) bQ fun bS bT eg bU bV=>?_
   obtain⟨rfl,bc,bW,eh,ei⟩:=bU
   have bX:AtK _ bS bT [sv f.Text,V6 f.At,V6 f.From,V6 f.To]:=bV
   refine lv (rv_loadS tf183 u am bX u) (al tf183 am fun aH ej bY=>?_)
   have bZ:SH _ _ _ _ _ [obj aH [sv [],V6 0,V6 0,V6 0] 183,_,_,_]:=bY
   refine lw [sv f.Text,V6 f.At,V6 f.From,V6 f.To] tf183 bZ fun ek aI=>(nr (fl ff183_0 u tf9 m0 aI u ?_))
   obtain⟨V,ca,cb⟩:=ob bR
   refine lk co124 (ok_impl_StemOf F aI.enter0 bc ca) ?_
   rintro el em ⟨cc,rfl,G,bd⟩
   have ao:=(aI.c0 G).t4
   refine av u (ns ?_)
   obtain⟨cd,ce,cf⟩:=ob cb
   refine wc_cutg (IV w K [] cc [(2,pt i),(5,V3 k 0 0),(6,V3 m o q),(8,pt aH),(9,sv V),(24,V3 aZ ba bb),(25,V6 (aY.length:Int)),(26,V6 ((aF:Nat):Int)),(45,.bool cd)] [obj i [V3 A a b,V3 B c d] 33,obj aH [sv f.Text,V6 f.At,V6 f.From,V6 f.To] 183,tail (V3 k 0 0) 112 2,tail (V3 m o q) 112 2]) ?_ ?_
   ·refine wc_region (fl ff33_0 u tf22 m1 ao u (fl ff183_0 u tf9 m0 ao u ?_))
    obtain⟨en,cg,ch⟩:=ob ce
    refine lk co125 (ok_slices_Contains_string F ao.enter0 (SliceAt.mono (((((J.trans O).trans Y).trans y.le).trans D).trans G.le) aj) bc cg) ?_
    rintro eo ep ⟨cj,rfl,ap⟩
    have aq:=(ao.c0 ap).t4
    refine lv (rv_not u) (mv u (bt ch (fun s aJ=>?_) (fun s aJ=>?_)))
    ·refine lg s (rv_fieldAddr ff33_0 u) (lg s (rv_loadm1 tf22 u m1 aq u) (lg s (rv_move u) ?_))
     obtain⟨eq,ck,cl⟩:=ob aJ
     refine wl_call (wg u u s) u (rt_call (vs:=[V3 A a b,sv V]) co125 u) (ok_slices_Contains_string F aq.enter0 (SliceAt.mono ((((((J.trans O).trans Y).trans y.le).trans D).trans G.le).trans ap.le) aj) bd ck) ?_
     rintro es et ⟨cm,rfl,be⟩
     refine⟨_,u,?_⟩
     have cn:=(aq.c0 be).t4
     refine lg s (rv_not u) (lv (rv_pick_t u s u) (wl_nil ?_))
     cases oi cl
     exact qd ⟨cm,u,cn.f3.f3.f2.f3,(ap.le.trans be.le)⟩
    iterate 5 refine lu s ?_
    refine lv (p_f u s u) (wl_nil ?_)
    cases oi aJ
    exact qd ⟨cj,u,aq.f3.f3.f2.f3,ap.le⟩
   rintro _ eu ⟨cp,rfl,aK,ar⟩
   refine qe_seq (wcc cf u (fun cq aL=>?_) (fun cq aL=>?_))
   ·refine wc_region (mv u (mv u (fl ff183_1 u tf3 m1 aK u (lv (rv_build (cs:=#[sv V,V6 f.At]) sp112 tf112 u (by kernel_rfl)) (lb tGTerm (.agg #[sv V,V6 f.At]) [sv V,V6 f.At] (GTerm.mk V f.At) underlying109 tf112 ⟨u,bd,bW⟩ aK fun ev ew ex bf cr ct=>?_)))))
    obtain⟨eA,cu,cv⟩:=ob aL
    refine lp underlying109 tf112 (an.mono ((G.le.trans ar).trans bf)) cr cu ct.f4 fun cw cx cy eB cz cA cB cC=>(av u (nb (qg (lv (rv_add_to u u (w64_succ hi97 (SliceAt.max ak))) (mv u (wl_nil ?_))))))
    cases oi cv
    exact qd ⟨cw,cx,cy,cz,u,cC.f4.f3.s,((((D.trans G.le).trans ar).trans bf).trans cA),cB⟩
   refine wc_skip (qe_block (qg (lv (rv_add_to u u (w64_succ hi97 (SliceAt.max ak))) (mv u (wl_nil ?_)))))
   cases oi aL
   exact qd ⟨m,o,q,cp,u,aK.s,((D.trans G.le).trans ar),(an.mono (G.le.trans ar))⟩
  rintro aG _ bO cD ⟨m,o,q,U,rfl,am,D,an⟩
  subst cD
  refine sr (lv (rv_lss u u) (ns (wc_cond_f u (decide_eq_false (by omega)) (wc_exit (qe_then_exit (qe_then_exit (qe_block_eq ?_)))))))
  cases oi bM
  exact qd ⟨m,o,q,U,u,am,D,an⟩
 rintro _ eC ⟨R,S,T,C,rfl,cE,aM,au⟩
 refine qs (sr (lv (r_0 u) (nq ?_)))
 obtain⟨cF,cG,cH⟩:=ob bK
 refine wc_cutg (fun E' w'=>∃aa ab ac ad,E'=[(5,V3 aa ab ac)]∧SH w K [] w' ad [tail (V3 aa ab ac) 112 2]∧KLe C ad∧SliceAt tGTerm ad aa ab ac cF) ?_ ?_
 ·refine wc_block ?_
  obtain⟨eD,cI,cJ⟩:=ob cG
  refine qw (fun (aw:(List GTerm)×Int) E' w'=>∃ae af ag ah,E'=[(2,pt i),(5,V3 ae af ag),(6,V3 R S T),(10,V6 aw.2)]∧SH w K [] w' ah [obj i [V3 A a b,V3 B c d] 33,tail (V3 ae af ag) 112 2,tail (V3 R S T) 112 2]∧KLe C ah∧SliceAt tGTerm ah ae af ag aw.1∧rng64 aw.2) cI ⟨k,0,0,C,u,cE,kr,(SliceAt.mono (((O.trans Y).trans y.le).trans aM) aU),d_0⟩ ?_
  rintro aw _ eE eF cK cL ⟨ae,af,ag,ah,rfl,ax,x,aN,cM⟩
  refine wc_seq (sr (mv u (mv u (lv (rv_len underlying109 u (au.mono x)) (lv (rv_lss u u) (nq (wcc cK u (fun cN aO=>?_) (fun cN aO=>?_))))))))
  ·refine wc_skip (qe_seq (wc_block (sr (lv (rv_loadmS (ds:=[V3 A a b,V3 B c d]) tf33 u m0 ax u u) (mv u (mv u ?_))))))
   obtain⟨eG,cO,cP⟩:=ob aO
   refine lk co150 (ok_impl_ruleAt F ax.enter0 (SliceAt.mono (((((J.trans O).trans Y).trans y.le).trans aM).trans x) aj) (SliceAt.mono (((((J.trans O).trans Y).trans y.le).trans aM).trans x) aS) (au.mono x) cM cO) ?_
   rintro eH eI ⟨v221,cQ,rfl,H,hp222⟩
   have aP:=(ax.c0 H).t3
   refine av u (nsr (mv u (lv (rv_pnil underlying184 u u hp222) (nq (wcc cP u (fun cR aQ=>?_) (fun cR aQ=>?_))))))
   ·refine sr (mv u (mv u (mv u ?_)))
    obtain⟨I,cS,cT⟩:=ob aQ
    refine li underlying109 tf112 (au.mono (x.trans H.le)) cS fun cU cV eJ cW cX=>?_
    obtain⟨rfl,cY,cZ⟩:=cW
    have da:AtK _ cU cV [sv I.Text,V6 I.At]:=cX
    refine lv (rv_loadS tf112 u aP da u) (lb tGTerm (.agg #[sv I.Text,V6 I.At]) [sv I.Text,V6 I.At] I underlying109 tf112 ⟨u,cY,cZ⟩ aP fun eK eL eM bg db dc=>?_)
    obtain⟨eN,dd,de⟩:=ob cT
    refine lp underlying109 tf112 (aN.mono (H.le.trans bg)) db dd dc.f2 fun df dg dh eO di dj dk dl=>(av u (nr (mv u (lv (rv_add u u) (av u (nq (wc_exit (qe_then_exit (qe_block_eq ?_)))))))))
    cases oi de
    exact qd ⟨_,u,df,dg,dh,di,u,dl.f3.f1.f3.s,(((x.trans H.le).trans bg).trans dj),dk,(w64_rng _)⟩
   refine wc_skip (qs ?_)
   have bh:=aP.drew
   refine wh1 (fun w'=>Holds cQ w') (fun w'=>True) 14 [] mixed (bh.hasK kr) (fun _=>trivial) (gt (rv_move u) (gt (rv_move u) ?_))
   obtain⟨ai,dm,dn⟩:=ob aQ
   obtain⟨dp,dq,eP,rfl,dr,dt⟩:=PtrO.get hp222 dm
   obtain⟨du,dv,dw,rfl,dx,dy⟩:=dr
   have bi:AtK _ dp dq [V3 du dv dw,sv ai.To]:=dt
   refine gt (rv_nilCheck u) (gt (rv_fieldAddr ff159_1 u) (gh (fun _ h=>rh_load1 tf9 u (bi 1 _ u) h) (gt (rv_move u) (gt (rv_move u) ?_))))
   obtain⟨W,dz,dA⟩:=ob dn
   refine gi underlying109 tf112 (au.mono (x.trans H.le)) dz fun dB dC eQ dD dE=>?_
   obtain⟨rfl,eR,dF⟩:=dD
   have dG:AtK _ dB dC [sv W.Text,V6 W.At]:=dE
   refine gt (rv_fieldAddr ff112_1 u) (gh (fun _ h=>rh_load1 tf3 u (dG 1 _ u) h) (gt (rv_build (cs:=#[sv ai.To,V6 W.At]) sp112 tf112 u (by kernel_rfl)) (gn (lb tGTerm (.agg #[sv ai.To,V6 W.At]) [sv ai.To,V6 W.At] (GTerm.mk ai.To W.At) underlying109 tf112 ⟨u,dy,dF⟩ bh fun eS eT eU X dH bj=>(wl_nil (qh (bj.hasK X) (fun _=>trivial) (gn ?_)))))))
   obtain⟨eV,dI,dJ⟩:=ob dA
   refine lp underlying109 tf112 (aN.mono (H.le.trans X)) dH dI bj.f2 fun dK dL dM eW dN ay dO aR=>(wl_nil (qh (aR.hasK (X.trans ay)) (fun _=>trivial) (gt (rv_assign u) (gd' (qe_seq (wc_region (mv u (mv u (lv (rv_nilCheck u) (fa ff159_0 u ?_))))))))))
   refine lv (rv_load1 tf22 u aR ((AtK.mono (X.trans ay) bi) 0 _ u)) (lv (rv_len underlying22 u (dx.mono (X.trans ay))) (lv (rv_add u u) (av u (nb ?_))))
   cases oi dJ
   exact qd ⟨_,u,dK,dL,dM,dN,u,aR.f3.f1.f3.s,(((x.trans H.le).trans X).trans ay),dO,(w64_rng _)⟩
  refine wc_exit (qe_then_exit (qe_then_exit ?_))
  cases oi aO
  cases cL _ u
  refine qe_block_eq ?_
  cases oi cJ
  exact qd ⟨ae,af,ag,ah,u,ax.s,x,aN⟩
 rintro _ eX ⟨aa,ab,ac,ad,rfl,dP,eY,dQ⟩
 refine qr (mv u (av u (nq (wc_ret ?_))))
 cases oi cH
 exact ey results73 ⟨aa,ab,ac,ad,u,dP,dQ⟩
end Go.Proofs.YtpjefkdclnmlfaaGreat
