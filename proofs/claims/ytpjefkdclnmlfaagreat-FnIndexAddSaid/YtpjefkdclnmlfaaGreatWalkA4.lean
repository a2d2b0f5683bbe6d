/-
 Walks of the functions. Printed by gen.py.
-/
import Derived.Test.YtpjefkdclnmlfaaGreatLawDocsT
import Derived.Test.YtpjefkdclnmlfaaGreatCoreQp
import Derived.Test.YtpjefkdclnmlfaaGreatWalkA2
import Derived.Test.YtpjefkdclnmlfaaGreatWalkA3
set_option linter.unusedVariables false
set_option linter.unusedSectionVars false
set_option maxRecDepth 100000
namespace Go.Proofs.YtpjefkdclnmlfaaGreat
set_option maxHeartbeats 4000000
open Go Go.Fk Go.RowKit Tryz
variable (F:Nat){w:World}{K:KMap}{Z:List Nat}{g1 g2 g3:Nat}{A B C D G H I J O R S T:Option Addr}{a b c d f i k l m n o p q s v x y aa ab ac ad ae af ag:Nat}
variable [dr:Dr]

theorem ok_slices_EqualFunc_Post__impl_samePost {q0:List GPost}{q1:List GPost}{r:Bool}(hS:SH w K [] w K [])(i:SliceAt tGPost K A a b q0)(O:SliceAt tGPost K B c d q1)(hm:M.slices_EqualFunc_Post__impl_samePost F q0 q1=some r):
  Calls prog 217 #[V3 A a b,V3 B c d,.func (.func 218) #[] #[]] w (R_b w K r):=by
 rw [M.slices_EqualFunc_Post__impl_samePost] at hm
 refine ci func217 u ntmps217 (sr (lv (r_f u) (nsr (mv u (lv (rv_len underlying61 u i) (mv u (lv (rv_len underlying61 u O) (lv (rv_neq u u) (nq ?_)))))))))
 refine wc_cond u (fun H=>?_) (fun H=>?_)
 ·have I:=cond_t H hm
  refine sr (lv (r_f u) (nq (rr ?_)))
  cases oi I
  exact ey results217 ⟨K,u,hS⟩
 have I:=cond_f H hm
 refine wc_skip (qs (sr (mv u (lv (rv_len underlying61 u i) (lv (r_m u) (nq ?_))))))
 obtain⟨aa,ab,k⟩:=ob I
 refine wc_cutg (IE aa w K [] K [] []) ?_ ?_
 ·refine wc_block ?_
  obtain⟨aO,ac,R⟩:=ob ab
  refine qf (fun (S:Nat) (T:Unit)=>IV w K [] K [(1,V3 B c d),(2,.func (.func 218) #[] #[]),(15,V3 A a b),(16,V6 (q0.length:Int)),(17,V6 ((S:Nat):Int))] []) ac ⟨K,u,hS,kr⟩ ?_ ?_
  ·rintro S T _ ad aP hi29 ae af ⟨U,rfl,l,f⟩
   refine sr (lv (rv_lss u u) (ns (wc_cond_t u (decide_eq_true (by omega)) (wc_skip (qe_seq (wc_seq (wc_block (sr (mv u ?_)))))))))
   obtain⟨m,ag,ah⟩:=ob ae
   refine li underlying61 tf134 (i.mono f) ag fun ai aj aQ ak am=>?_
   obtain⟨o,q,s,rfl,an,ao⟩:=ak
   have ap:AtK _ ai aj [V6 m.Doc,V3 o q s]:=am
   refine lv (rv_loadS tf134 u l ap u) (al tf134 l fun aq aR ar=>?_)
   have au:SH _ _ _ _ _ [obj aq [V6 0,V3 none 0 0] 134]:=ar
   refine av u (lw [V6 m.Doc,V3 o q s] tf134 au fun aS V=>(nr (mv u (mv u ?_))))
   obtain⟨x,aw,ax⟩:=ob ah
   refine li underlying61 tf134 (O.mono f) aw fun ay az aT aA aB=>?_
   obtain⟨y,C,D,rfl,aC,aD⟩:=aA
   have aE:AtK _ ay az [V6 x.Doc,V3 y C D]:=aB
   refine lv (rv_loadS tf134 u V aE u) (al tf134 V fun aF aU aG=>?_)
   have aH:SH _ _ _ _ _ [obj aF [V6 0,V3 none 0 0] 134,_]:=aG
   refine lw [V6 x.Doc,V3 y C D] tf134 aH fun aV G=>(nr (mv u (lv (rv_loadmS (ds:=[V6 m.Doc,V3 o q s]) tf134 u m1 G u u) (lv (rv_loadmS (ds:=[V6 x.Doc,V3 y C D]) tf134 u m0 G u u) ?_))))
   obtain⟨aW,aI,aJ⟩:=ob ax
   refine wl_call wn u (rt_callv (vs:=[.agg #[V6 m.Doc,V3 o q s],.agg #[V6 x.Doc,V3 y C D]]) (cap:=#[]) co218 u u) (ok_impl_samePost F G.enter0 an ao aC aD aI) ?_
   rintro aX aY ⟨W,rfl,X⟩
   refine⟨_,u,?_⟩
   have Y:=(G.c0 X).t2
   refine lv (rv_not u) (nq (wcc aJ u (fun aK J=>?_) (fun aK J=>?_)))
   ·refine sr (lv (r_f u) (nq (wc_ret (qe_block_ret (qe_then_ret (qe_then_ret ?_))))))
    cases oi J
    cases af _ u
    refine qe_block_ret (qe_then_ret ?_)
    cases oi R
    refine qe_then_ret ?_
    cases oi k
    exact ey results217 ⟨W,u,Y.s⟩
   refine wc_skip (qe_block (qg (lv (rv_add_to u u (w64_succ hi29 (SliceAt.max i))) (mv u (wl_nil ?_)))))
   cases oi J
   exact qd ⟨_,u,W,u,Y.s,(f.trans X.le)⟩
  rintro T _ ad aL ⟨U,rfl,l,f⟩
  subst aL
  refine sr (lv (rv_lss u u) (ns (wc_cond_f u (decide_eq_false (by omega)) (wc_exit (qe_then_exit (qe_then_exit (qe_block_eq ?_)))))))
  cases oi R
  exact qe_mid' ⟨_,U,u,u,l,f⟩ trivial
 rintro _ aZ ⟨ba,aM,rfl,rfl,aN,bb⟩
 have k:=elim_l k
 refine qr (lv (r_t u) (nq (wc_ret ?_)))
 cases oi k
 exact ey results217 ⟨aM,u,aN⟩

theorem ok_impl_sameEntry {q0:GEntry}{q1:GEntry}{r:Bool}(hS:SH w K [] w K [])(R:q0.Field.length≤maxLen)(S:q0.Term.length≤maxLen)(o:SliceAt tGPost K A a b q0.Posts)(T:q1.Field.length≤maxLen)(U:q1.Term.length≤maxLen)(q:SliceAt tGPost K B c d q1.Posts)(hm:M.impl_sameEntry F q0 q1=some r):
  Calls prog 165 #[.agg #[sv q0.Field,sv q0.Term,V3 A a b],.agg #[sv q1.Field,sv q1.Term,V3 B c d]] w (R_b w K r):=by
 rw [M.impl_sameEntry] at hm
 refine ci func165 u ntmps165 (sr (bx u hS fun s V x=>?_))
 have y:SH _ _ _ _ _ [obj s [sv q0.Field,sv q0.Term,V3 A a b] 116]:=x
 refine bx u y fun C W D=>?_
 have f:SH _ _ _ _ _ [obj C [sv q1.Field,sv q1.Term,V3 B c d] 116,_]:=D
 refine lv (r_f u) (nr (fl ff116_0 u tf9 m1 f u (fl ff116_0 u tf9 m0 f u (lv (rv_seql u u) (mv u (bt hm (fun i l=>?_) (fun i l=>?_)))))))
 ·refine lg i (rv_fieldAddr ff116_1 u) (lg i (rv_loadm1 tf9 u m1 f u) (lg i (rv_fieldAddr ff116_1 u) (lg i (rv_loadm1 tf9 u m0 f u) (lg i (rv_seql u u) (lv (rv_pick_t u i u) (mv u (bt l (fun k m=>?_) (fun k m=>?_))))))))
  ·refine lg k (rv_fieldAddr ff116_2 u) (lg k (rv_loadm1 tf61 u m1 f u) (lg k (rv_fieldAddr ff116_2 u) (lg k (rv_loadm1 tf61 u m0 f u) ?_)))
   obtain⟨X,G,H⟩:=ob m
   refine wl_call (wg u u k) u (rt_call (vs:=[V3 A a b,V3 B c d,.func (.func 218) #[] #[]]) co217 u) (ok_slices_EqualFunc_Post__impl_samePost F f.enter0 o q G) ?_
   rintro Y aa ⟨I,rfl,J⟩
   refine⟨_,u,?_⟩
   have O:=(f.c0 J).t2
   refine lv (rv_pick_t u k u) (av u (nq (wc_ret ?_)))
   cases oi H
   exact ey results165 ⟨I,u,O.s⟩
  iterate 5 refine lu k ?_
  refine lv (p_f u k u) (av u (nq (wc_ret ?_)))
  cases oi m
  exact ey results165 ⟨K,u,f.s⟩
 iterate 5 refine lu i ?_
 refine lv (p_f u i u) (mv u ?_)
 iterate 5 refine lu u ?_
 refine lv (p_f u u u) (av u (nq (wc_ret ?_)))
 cases oi l
 exact ey results165 ⟨K,u,f.s⟩

theorem ok_slices_EqualFunc_Entry__impl_sameEntry {q0:List GEntry}{q1:List GEntry}{r:Bool}(hS:SH w K [] w K [])(l:SliceAt tGEntry K A a b q0)(O:SliceAt tGEntry K B c d q1)(hm:M.slices_EqualFunc_Entry__impl_sameEntry F q0 q1=some r):
  Calls prog 164 #[V3 A a b,V3 B c d,.func (.func 165) #[] #[]] w (R_b w K r):=by
 rw [M.slices_EqualFunc_Entry__impl_sameEntry] at hm
 refine ci func164 u ntmps164 (sr (lv (r_f u) (nsr (mv u (lv (rv_len underlying44 u l) (mv u (lv (rv_len underlying44 u O) (lv (rv_neq u u) (nq ?_)))))))))
 refine wc_cond u (fun H=>?_) (fun H=>?_)
 ·have I:=cond_t H hm
  refine sr (lv (r_f u) (nq (rr ?_)))
  cases oi I
  exact ey results164 ⟨K,u,hS⟩
 have I:=cond_f H hm
 refine wc_skip (qs (sr (mv u (lv (rv_len underlying44 u l) (lv (r_m u) (nq ?_))))))
 obtain⟨aa,ab,m⟩:=ob I
 refine wc_cutg (IE aa w K [] K [] []) ?_ ?_
 ·refine wc_block ?_
  obtain⟨aQ,ac,R⟩:=ob ab
  refine qf (fun (S:Nat) (T:Unit)=>IV w K [] K [(1,V3 B c d),(2,.func (.func 165) #[] #[]),(15,V3 A a b),(16,V6 (q0.length:Int)),(17,V6 ((S:Nat):Int))] []) ac ⟨K,u,hS,kr⟩ ?_ ?_
  ·rintro S T _ ad aR hi29 ae af ⟨U,rfl,o,k⟩
   refine sr (lv (rv_lss u u) (ns (wc_cond_t u (decide_eq_true (by omega)) (wc_skip (qe_seq (wc_seq (wc_block (sr (mv u ?_)))))))))
   obtain⟨f,ag,ah⟩:=ob ae
   refine li underlying44 tf116 (l.mono k) ag fun ai aj aS ak am=>?_
   obtain⟨q,s,x,rfl,an,ao,ap⟩:=ak
   have aq:AtK _ ai aj [sv f.Field,sv f.Term,V3 q s x]:=am
   refine lv (rv_loadS tf116 u o aq u) (al tf116 o fun ar aT au=>?_)
   have aw:SH _ _ _ _ _ [obj ar [sv [],sv [],V3 none 0 0] 116]:=au
   refine av u (lw [sv f.Field,sv f.Term,V3 q s x] tf116 aw fun aU V=>(nr (mv u (mv u ?_))))
   obtain⟨i,ax,ay⟩:=ob ah
   refine li underlying44 tf116 (O.mono k) ax fun az aA aV aB aC=>?_
   obtain⟨y,C,D,rfl,aD,aE,aF⟩:=aB
   have aG:AtK _ az aA [sv i.Field,sv i.Term,V3 y C D]:=aC
   refine lv (rv_loadS tf116 u V aG u) (al tf116 V fun aH aW aI=>?_)
   have aJ:SH _ _ _ _ _ [obj aH [sv [],sv [],V3 none 0 0] 116,_]:=aI
   refine lw [sv i.Field,sv i.Term,V3 y C D] tf116 aJ fun aX G=>(nr (mv u (lv (rv_loadmS (ds:=[sv f.Field,sv f.Term,V3 q s x]) tf116 u m1 G u u) (lv (rv_loadmS (ds:=[sv i.Field,sv i.Term,V3 y C D]) tf116 u m0 G u u) ?_))))
   obtain⟨aY,aK,aL⟩:=ob ay
   refine wl_call wn u (rt_callv (vs:=[.agg #[sv f.Field,sv f.Term,V3 q s x],.agg #[sv i.Field,sv i.Term,V3 y C D]]) (cap:=#[]) co165 u u) (ok_impl_sameEntry F G.enter0 an ao ap aD aE aF aK) ?_
   rintro aZ ba ⟨W,rfl,X⟩
   refine⟨_,u,?_⟩
   have Y:=(G.c0 X).t2
   refine lv (rv_not u) (nq (wcc aL u (fun aM J=>?_) (fun aM J=>?_)))
   ·refine sr (lv (r_f u) (nq (wc_ret (qe_block_ret (qe_then_ret (qe_then_ret ?_))))))
    cases oi J
    cases af _ u
    refine qe_block_ret (qe_then_ret ?_)
    cases oi R
    refine qe_then_ret ?_
    cases oi m
    exact ey results164 ⟨W,u,Y.s⟩
   refine wc_skip (qe_block (qg (lv (rv_add_to u u (w64_succ hi29 (SliceAt.max l))) (mv u (wl_nil ?_)))))
   cases oi J
   exact qd ⟨_,u,W,u,Y.s,(k.trans X.le)⟩
  rintro T _ ad aN ⟨U,rfl,o,k⟩
  subst aN
  refine sr (lv (rv_lss u u) (ns (wc_cond_f u (decide_eq_false (by omega)) (wc_exit (qe_then_exit (qe_then_exit (qe_block_eq ?_)))))))
  cases oi R
  exact qe_mid' ⟨_,U,u,u,o,k⟩ trivial
 rintro _ bb ⟨bc,aO,rfl,rfl,aP,bd⟩
 have m:=elim_l m
 refine qr (lv (r_t u) (nq (wc_ret ?_)))
 cases oi m
 exact ey results164 ⟨aO,u,aP⟩

theorem ok_impl_SegOk {q0:GConf}{q1:GSeg}{r:Bool}(hS:SH w K [] w K [])(T:SliceAt tStr K A a b q0.Stops)(U:SliceAt tGSyn K B c d q0.Syns)(V:SliceAt tGDoc K C f i q1.Docs)(ab:SliceAt tGEntry K D k l q1.Entries)(hm:M.impl_SegOk F q0 q1=some r):
  Calls prog 94 #[.agg #[V3 A a b,V3 B c d],.agg #[V3 C f i,V3 D k l]] w (R_b w K r):=by
 rw [M.impl_SegOk] at hm
 refine ci func94 u ntmps94 (sr (bx u hS fun s az ac=>?_))
 have ad:SH _ _ _ _ _ [obj s [V3 A a b,V3 B c d] 33]:=ac
 refine bx u ad fun x aA ae=>?_
 have O:SH _ _ _ _ _ [obj x [V3 C f i,V3 D k l] 46,_]:=ae
 refine lv (r_f u) (ns (wc_seq ?_))
 obtain⟨af,ag,ah⟩:=ob hm
 refine wc_cutg (IV w K [] K [(2,pt s),(3,pt x),(13,.bool af)] [obj s [V3 A a b,V3 B c d] 33,obj x [V3 C f i,V3 D k l] 46]) ?_ ?_
 ·refine wc_region (lv (rv_loadmS (ds:=[V3 A a b,V3 B c d]) tf33 u m1 O u u) ?_)
  obtain⟨aB,ai,aj⟩:=ob ag
  refine lk co59 (ok_impl_ConfOk F O.enter0 T U ai) ?_
  rintro aC aD ⟨ak,rfl,y⟩
  have G:=(O.c0 y).t2
  refine lv (rv_not u) (mv u (bt aj (fun m R=>?_) (fun m R=>?_)))
  ·refine lu m (lu m (lu m (lu m (lv (p_t u m u) (wl_nil ?_)))))
   cases oi R
   exact qd ⟨ak,u,G.f1,y.le⟩
  refine lg m (rv_fieldAddr ff46_0 u) (lg m (rv_loadm1 tf43 u m0 G u) ?_)
  obtain⟨aE,al,am⟩:=ob R
  refine wl_call (wg u u m) u (rt_call (vs:=[V3 C f i]) co45 u) (ok_impl_DocsOk F G.enter0 (V.mono y.le) al) ?_
  rintro aF aG ⟨an,rfl,W⟩
  refine⟨_,u,?_⟩
  have ao:=(G.c0 W).t2
  refine lg m (rv_not u) (lv (rv_pick_f u m u) (wl_nil ?_))
  cases oi am
  exact qd ⟨an,u,ao.f1,(y.le.trans W.le)⟩
 rintro _ aH ⟨X,rfl,Y,H⟩
 refine qe_seq (wcc ah u (fun ap S=>?_) (fun ap S=>?_))
 ·refine sr (lv (r_f u) (nq (rr ?_)))
  cases oi S
  exact ey results94 ⟨X,u,Y.s⟩
 refine wc_skip (qs ?_)
 have o:=Y.drew
 refine j_0 (fun w'=>Holds X w'∧HasObj s [V3 A a b,V3 B c d] w'∧HasObj x [V3 C f i,V3 D k l] w') 9 [] mixed ⟨o.hasK kr,o.hasObj m0,o.hasObj m1⟩ (jh 0 u (fun _ h=>rh_loadmS (ds:=[V3 A a b,V3 B c d]) tf33 u u u h.2.1) (jv 1 u (rv_fieldAddr ff46_0 u) (jh 2 u (fun _ h=>rh_loadm1 tf43 u u h.2.2) (jv 5 u (rv_fieldAddr ff46_1 u) (jh 6 u (fun _ h=>rh_loadm1 tf44 u u h.2.2) (j1 3 u ?_))))))
 obtain⟨aI,aq,ar⟩:=ob S
 refine lk co21 (ok_impl_SegOf F o.enter0 (T.mono H) (U.mono H) (V.mono H) aq) ?_
 rintro aJ aK ⟨aL,aM,aN,aO,aP,aQ,aR,rfl,I,aS,au⟩
 have q:=(o.c0 I).t3
 refine j_o ⟨q.hasK I.le,q.hasObj m1,q.hasObj m2⟩ (jv 4 u (rv_field fg46_1 tf44 u (.inl ⟨u,u⟩)) (j1 7 u ?_))
 obtain⟨aT,aw,ax⟩:=ob ar
 refine lk co164 (ok_slices_EqualFunc_Entry__impl_sameEntry F q.enter0 au (ab.mono (H.trans I.le)) aw) ?_
 rintro aU aV ⟨ay,rfl,aa⟩
 have J:=(q.c0 aa).t3
 refine j_o ⟨J.hasK (I.le.trans aa.le),J.hasObj m1,J.hasObj m2⟩ (jv 8 u (rv_assign u) (jd (qe_seq (wc_ret ?_))))
 cases oi ax
 exact ey results94 ⟨ay,u,J.s⟩

theorem ok_impl_UpOk {q0:List Int}{r:Bool}(hS:SH w K [] w K [])(f:SliceAt tInt K A a b q0)(hm:M.impl_UpOk F q0=some r):
  Calls prog 126 #[V3 A a b] w (R_b w K r):=by
 rw [M.impl_UpOk] at hm
 refine ci func126 u ntmps126 (sr (lv (r_f u) (nsr (mv u (lv (rv_len underlying71 u f) (lv (r_m u) (nq ?_)))))))
 obtain⟨J,O,m⟩:=ob hm
 refine wc_cutg (IE J w K [] K [(0,V3 A a b)] []) ?_ ?_
 ·refine wc_block ?_
  obtain⟨aB,R,D⟩:=ob O
  refine qf (fun (q:Nat) (G:Unit)=>IV w K [] K [(0,V3 A a b),(5,V3 A a b),(6,V6 (q0.length:Int)),(7,V6 ((q:Nat):Int))] []) R ⟨K,u,hS,kr⟩ ?_ ?_
  ·rintro q G _ S aC hi23 T U ⟨s,rfl,i,k⟩
   refine sr (lv (rv_lss u u) (ns (wc_cond_t u (decide_eq_true (by omega)) (wc_skip (qe_seq (wc_seq (wc_block (sr (mv u ?_)))))))))
   obtain⟨V,W,X⟩:=ob T
   refine li underlying71 tf3 (f.mono k) W fun Y aa aD ab ac=>?_
   obtain⟨rfl,ad⟩:=ab
   have ae:AtK _ Y aa [V6 V]:=ac
   refine lv (rv_load1 tf3 u i (ae 0 _ u)) (av u (av u (ns ?_)))
   obtain⟨af,ag,ah⟩:=ob X
   refine wc_cutg (IV w K [] s [(0,V3 A a b),(5,V3 A a b),(6,V6 (q0.length:Int)),(7,V6 ((q:Nat):Int)),(27,.bool af)] []) ?_ ?_
   ·refine wc_region (mv u ?_)
    obtain⟨aE,ai,aj⟩:=ob ag
    refine lk co108 (ok_impl_within F i.enter0 ad d_0 (by decide :rng64 999999999) ai) ?_
    rintro aF aG ⟨x,rfl,l⟩
    have o:=(i.c0 l).t0
    refine lv (rv_not u) (mv u (bt aj (fun c y=>?_) (fun c y=>?_)))
    ·refine lu c (lu c (lu c (wl_un (uu u u) u (wl_un (uu u u) u (wl_un (uu u u) u (wl_un (uu u u) u (wl_un (uu u u) u (wl_un (uu u u) u (wl_un (uu u u) u ?_)))))))))
     refine lu c (lv (p_t u c u) (wl_nil ?_))
     cases oi y
     exact qd ⟨x,u,o,l.le⟩
    refine lg c (rv_move u) (lg c (rv_gtr u u) (lg c (rv_move u) (bt y (fun d B=>?_) (fun d B=>?_))))
    ·refine lg d (rv_move u) (lg d (rv_move u) (lg d (rv_sub u u) ?_))
     obtain⟨ak,al,am⟩:=ob B
     refine wl_indexAddr (t:=tInt) (wg u u d) u underlying71 tf3 u u (f.mono (k.trans l.le)) al fun an ao aH ap aq=>?_
     obtain⟨rfl,aI⟩:=ap
     have ar:AtK _ an ao [V6 ak]:=aq
     refine lg d (rv_load1 tf3 u o (ar 0 _ u)) (lg d (rv_move u) (lg d (rv_geq u u) (lg c (rv_pick_t u d u) (lv (rv_pick_f u c u) (wl_nil ?_)))))
     cases oi am
     exact qd ⟨x,u,o,l.le⟩
    iterate 7 refine lu d ?_
    refine lg c (p_f u d u) (lv (rv_pick_f u c u) (wl_nil ?_))
    cases oi B
    exact qd ⟨x,u,o,l.le⟩
   rintro _ aJ ⟨H,rfl,I,au⟩
   refine qe_seq (wcc ah u (fun aw C=>?_) (fun aw C=>?_))
   ·refine sr (lv (r_f u) (nq (wc_ret (qe_block_ret (qe_then_ret (qe_then_ret ?_))))))
    cases oi C
    cases U _ u
    refine qe_block_ret (qe_then_ret ?_)
    cases oi D
    refine qe_then_ret ?_
    cases oi m
    exact ey results126 ⟨H,u,I⟩
   refine wc_skip (qe_block (qg (lv (rv_add_to u u (w64_succ hi23 (SliceAt.max f))) (mv u (wl_nil ?_)))))
   cases oi C
   exact qd ⟨_,u,H,u,I,(k.trans au)⟩
  rintro G _ S ax ⟨s,rfl,i,k⟩
  subst ax
  refine sr (lv (rv_lss u u) (ns (wc_cond_f u (decide_eq_false (by omega)) (wc_exit (qe_then_exit (qe_then_exit (qe_block_eq ?_)))))))
  cases oi D
  exact qd ⟨_,s,u,u,i,k⟩
 rintro _ aK ⟨s8,K9,rfl,rfl,az,aA⟩
 have m:=elim_l m
 refine qr (mv u (lv (rv_len underlying71 u (f.mono aA)) (lv (rv_leq u u) (av u (nq (wc_ret ?_))))))
 cases oi m
 exact ey results126 ⟨K9,u,az⟩

theorem ok_slices_Index_int {q0:List Int}{q1:Int}{r:Int}(hS:SH w K [] w K [])(d:SliceAt tInt K A a b q0)(Y:rng64 q1)(hm:M.slices_Index_int F q0 q1=some r):
  Calls prog 223 #[V3 A a b,V6 q1] w (R_i w K r):=by
 rw [M.slices_Index_int] at hm
 refine ci func223 u ntmps223 (sr (lv (r_0 u) (nsr (mv u (lv (rv_len underlying71 u d) (lv (r_m u) (nq ?_)))))))
 obtain⟨s,x,f⟩:=ob hm
 refine wc_cutg (IE s w K [] K [] []) ?_ ?_
 ·refine wc_block ?_
  obtain⟨aa,y,m⟩:=ob x
  refine qf (fun (o:Nat) (q:Unit)=>IV w K [] K [(0,V3 A a b),(1,V6 q1),(7,V6 (q0.length:Int)),(8,V6 ((o:Nat):Int))] []) y ⟨K,u,hS,kr⟩ ?_ ?_
  ·rintro o q _ B ab hi24 C D ⟨i,rfl,c,k⟩
   refine sr (lv (rv_lss u u) (ns (wc_cond_t u (decide_eq_true (by omega)) (wc_skip (qe_seq (wc_seq (wc_block (sr (mv u (av u (nr (mv u ?_))))))))))))
   refine mv u (mv u ?_)
   obtain⟨G,H,I⟩:=ob C
   refine li underlying71 tf3 (d.mono k) H fun J O ac R S=>?_
   obtain⟨rfl,ad⟩:=R
   have T:AtK _ J O [V6 G]:=S
   refine lv (rv_load1 tf3 u c (T 0 _ u)) (lv (rv_eql u u) (nq (wcc I u (fun U l=>?_) (fun U l=>?_))))
   ·refine sr (mv u (av u (nq (wc_ret (qe_block_ret (qe_then_ret (qe_then_ret ?_)))))))
    cases oi l
    cases D _ u
    refine qe_block_ret (qe_then_ret ?_)
    cases oi m
    refine qe_then_ret ?_
    cases oi f
    exact ey results223 ⟨i,u,c,(rng_idx hi24 (SliceAt.max d))⟩
   refine wc_skip (qe_block (qg (lv (rv_add_to u u (w64_succ hi24 (SliceAt.max d))) (mv u (wl_nil ?_)))))
   cases oi l
   exact qd ⟨_,u,i,u,c,k⟩
  rintro q _ B V ⟨i,rfl,c,k⟩
  subst V
  refine sr (lv (rv_lss u u) (ns (wc_cond_f u (decide_eq_false (by omega)) (wc_exit (qe_then_exit (qe_then_exit (qe_block_eq ?_)))))))
  cases oi m
  exact qe_mid' ⟨_,i,u,u,c,k⟩ trivial
 rintro _ ae ⟨s9,W,rfl,rfl,X,ag⟩
 have f:=elim_l f
 refine qr (lv (rv_assign (v:=V6 (-1)) u) (nq (wc_ret ?_)))
 cases oi f
 exact ey results223 ⟨W,u,X,(by decide :rng64 (-1))⟩

theorem ok_slices_Contains_int {q0:List Int}{q1:Int}{r:Bool}(hS:SH w K [] w K [])(c:SliceAt tInt K A a b q0)(d:rng64 q1)(hm:M.slices_Contains_int F q0 q1=some r):
  Calls prog 178 #[V3 A a b,V6 q1] w (R_b w K r):=by
 rw [M.slices_Contains_int] at hm
 refine ci func178 u ntmps178 (sr (lv (r_f u) (nr (mv u (mv u ?_)))))
 obtain⟨o,f,i⟩:=ob hm
 refine lk co223 (ok_slices_Index_int F hS.enter0 c d f) ?_
 rintro q s ⟨k,rfl,l,x⟩
 have m:=(hS.c0 l).t0
 refine lv (rv_geq u u) (av u (nq (wc_ret ?_)))
 cases oi i
 exact ey results178 ⟨k,u,m⟩

theorem ok_impl_Live_alive {q0:GLive}{r:(List GDoc)}(hS:SH w K [] w K [])(V:SliceAt tGDoc K A a b q0.Seg.Docs)(bd:SliceAt tGEntry K B c d q0.Seg.Entries)(aj:SliceAt tInt K C f i q0.Dead)(hm:M.impl_Live_alive F q0=some r):
  Calls prog 128 #[.agg #[V3 A a b,V3 B c d,V3 C f i]] w fun e w'=>∃a_1 n_2 c_3 K',e= .returned (V3 a_1 n_2 c_3)∧SH w K [] w' K' [tail (V3 a_1 n_2 c_3) 77 3]∧SliceAt tGDoc K' a_1 n_2 c_3 r:=by
 rw [M.impl_Live_alive] at hm
 refine ci func128 u ntmps128 (sr (bx u hS fun aa be ak=>?_))
 have am:SH _ _ _ _ _ [obj aa [V3 A a b,V3 B c d,V3 C f i] 73]:=ak
 refine lv (r_n u) (nr (b0 tGDoc underlying43 tf77 am fun an bf ab O ao af=>(av u (nsr (fa ff73_0 u (fl ff46_0 u tf43 m1 af u (lv (rv_len underlying43 u (V.mono O)) (lv (r_m u) (nq ?_)))))))))
 obtain⟨ap,aq,ar⟩:=ob hm
 refine wc_cutg (fun E' w'=>∃R S T U,E'=[(3,V3 R S T)]∧SH w K [] w' U [tail (V3 R S T) 77 3]∧KLe ab U∧SliceAt tGDoc U R S T ap) ?_ ?_
 ·refine wc_block ?_
  obtain⟨bg,au,aw⟩:=ob aq
  refine qF (fun (ag:Nat) (ac:(List GDoc)) E' w'=>∃k l m q,E'=[(1,pt aa),(3,V3 k l m),(9,V3 A a b),(10,V6 (q0.Seg.Docs.length:Int)),(11,V6 ((ag:Nat):Int))]∧SH w K [] w' q [obj aa [V3 A a b,V3 B c d,V3 C f i] 73,tail (V3 k l m) 77 3]∧KLe ab q∧SliceAt tGDoc q k l m ac) au ⟨an,0,0,ab,u,af.f1,kr,ao⟩ ?_ ?_
  ·rintro ag ac _ ax bh hi49 ay ⟨k,l,m,q,rfl,W,s,X⟩
   refine sr (lv (rv_lss u u) (ns (wc_cond_t u (decide_eq_true (by omega)) (wc_skip (qe_seq (wc_seq (wc_block (sr ?_))))))))
   obtain⟨x,az,aA⟩:=ob ay
   refine li underlying43 tf77 (V.mono (O.trans s)) az fun aB aC bi aD aE=>?_
   obtain⟨y,D,G,H,I,J,rfl,ah,aF,aG⟩:=aD
   have aH:AtK _ aB aC [V6 x.Id,V3 y D G,V3 H I J]:=aE
   refine lv (rv_loadS tf77 u W aH u) (al tf77 W fun aI bj aJ=>?_)
   have aK:SH _ _ _ _ _ [obj aI [V6 0,V3 none 0 0,V3 none 0 0] 77,_,_]:=aJ
   refine lw [V6 x.Id,V3 y D G,V3 H I J] tf77 aK fun bk Y=>(nr (fl ff73_1 u tf71 m1 Y u (fl ff77_0 u tf3 m0 Y u ?_)))
   obtain⟨bl,aL,aM⟩:=ob aA
   refine lk co178 (ok_slices_Contains_int F Y.enter0 (aj.mono (O.trans s)) ah aL) ?_
   rintro bm bn ⟨aN,rfl,o⟩
   have ad:=(Y.c0 o).t3
   refine lv (rv_not u) (nq (wcc aM u (fun aO ae=>?_) (fun aO ae=>?_)))
   ·refine wc_region (mv u (lv (rv_loadmS (ds:=[V6 x.Id,V3 y D G,V3 H I J]) tf77 u m0 ad u u) (lb tGDoc (.agg #[V6 x.Id,V3 y D G,V3 H I J]) [V6 x.Id,V3 y D G,V3 H I J] x underlying43 tf77 ⟨y,D,G,H,I,J,u,ah,(aF.mono o.le),(aG.mono o.le)⟩ ad fun bo bp bq ai aP aQ=>?_)))
    obtain⟨br,aR,aS⟩:=ob ae
    refine lp underlying43 tf77 (X.mono (o.le.trans ai)) aP aR aQ.f3 fun aT aU aV bs aW aX aY aZ=>(av u (nb (qg (lv (rv_add_to u u (w64_succ hi49 (SliceAt.max (V.mono O)))) (mv u (wl_nil ?_))))))
    cases oi aS
    exact qd ⟨aT,aU,aV,aW,u,aZ.f3.s,(((s.trans o.le).trans ai).trans aX),aY⟩
   refine wc_skip (qe_block (qg (lv (rv_add_to u u (w64_succ hi49 (SliceAt.max (V.mono O)))) (mv u (wl_nil ?_)))))
   cases oi ae
   exact qd ⟨k,l,m,aN,u,ad.s,(s.trans o.le),(X.mono o.le)⟩
  rintro ac _ ax ba ⟨k,l,m,q,rfl,W,s,X⟩
  subst ba
  refine sr (lv (rv_lss u u) (ns (wc_cond_f u (decide_eq_false (by omega)) (wc_exit (qe_then_exit (qe_then_exit (qe_block_eq ?_)))))))
  cases oi aw
  exact qd ⟨k,l,m,q,u,W.s,s,X⟩
 rintro _ bu ⟨R,S,T,U,rfl,bb,bv,bc⟩
 refine qr (mv u (av u (nq (wc_ret ?_))))
 cases oi ar
 exact ey results128 ⟨R,S,T,U,u,bb,bc⟩

theorem ok_impl_Seg_doc__ofGLive0 {q0:GLive}{q1:Int}{r:GDoc×Bool}(hS:SH w K Z w K [obj g1 [V3 A a b,V3 B c d,V3 C f i] 73])(aa:SliceAt tGDoc K A a b q0.Seg.Docs)(aR:SliceAt tGEntry K B c d q0.Seg.Entries)(aS:SliceAt tInt K C f i q0.Dead)(aT:rng64 q1)(hm:M.impl_Seg_doc__ofGLive0 F q0 q1=some r):
  Calls prog 127 #[.pointer (some ⟨g1,0,none⟩),V6 q1] w fun e w'=>∃a_2 n_3 c_4 a_6 n_7 c_8 K',e= .returned (.tuple #[.agg #[V6 r.1.Id,V3 a_2 n_3 c_4,V3 a_6 n_7 c_8],.bool r.2])∧SH w K Z w' K' [obj g1 [V3 A a b,V3 B c d,V3 C f i] 73]∧rng64 r.1.Id∧SliceAt tGField K' a_2 n_3 c_4 r.1.Fields∧SliceAt tGAttr K' a_6 n_7 c_8 r.1.Nums:=by
 rw [M.impl_Seg_doc__ofGLive0] at hm
 refine ci func127 u ntmps127 (sr (al tf77 hS fun T aU ar=>?_))
 have am:SH _ _ _ _ _ [obj T [V6 0,V3 none 0 0,V3 none 0 0] 77,_]:=ar
 refine lv (r_f u) (nsr (mv u (lv (rv_nilCheck u) (fl ff46_0 u tf43 m1 am u (lv (rv_len underlying43 u aa) (lv (r_m u) (nq ?_)))))))
 obtain⟨au,aw,V⟩:=ob hm
 refine wc_cutg (fun E' w'=>∃l ab ac ad ae af ag m,au= .inl l∧E'=[(0,pt g1),(4,pt T)]∧SH w K Z w' m [obj g1 [V3 A a b,V3 B c d,V3 C f i] 73,obj T [V6 l.Id,V3 ab ac ad,V3 ae af ag] 77]∧KLe K m∧rng64 l.Id∧SliceAt tGField m ab ac ad l.Fields∧SliceAt tGAttr m ae af ag l.Nums) ?_ ?_
 ·refine wc_block ?_
  obtain⟨aV,ax,an⟩:=ob aw
  refine qf (fun (ao:Nat) (o:GDoc) E' w'=>∃q s x y D G k,E'=[(0,pt g1),(1,V6 q1),(4,pt T),(11,V3 A a b),(12,V6 (q0.Seg.Docs.length:Int)),(13,V6 ((ao:Nat):Int))]∧SH w K Z w' k [obj g1 [V3 A a b,V3 B c d,V3 C f i] 73,obj T [V6 o.Id,V3 q s x,V3 y D G] 77]∧KLe K k∧rng64 o.Id∧SliceAt tGField k q s x o.Fields∧SliceAt tGAttr k y D G o.Nums) ax ⟨none,0,0,none,0,0,K,u,am.f1,kr,d_0,(SliceAt.nil _ _),(SliceAt.nil _ _)⟩ ?_ ?_
  ·rintro ao o _ ay aW hi57 az aA ⟨q,s,x,y,D,G,k,rfl,W,X,ah,ai,aj⟩
   refine sr (lv (rv_lss u u) (ns (wc_cond_t u (decide_eq_true (by omega)) (wc_skip (qe_seq (wc_seq (wc_block (sr ?_))))))))
   obtain⟨U,aB,aC⟩:=ob az
   refine li underlying43 tf77 (aa.mono X) aB fun aD aE aX aF aG=>?_
   obtain⟨H,I,J,O,R,S,rfl,aH,aI,aJ⟩:=aF
   have aK:AtK _ aD aE [V6 U.Id,V3 H I J,V3 O R S]:=aG
   refine lv (rv_loadS tf77 u W aK u) (al tf77 W fun aL aY aM=>?_)
   have aN:SH _ _ _ _ _ [obj aL [V6 0,V3 none 0 0,V3 none 0 0] 77,_,_]:=aM
   refine lw [V6 U.Id,V3 H I J,V3 O R S] tf77 aN fun aZ Y=>(nr (fl ff77_0 u tf3 m0 Y u (mv u (lv (rv_eql u u) (nq (wcc aC u (fun aO ak=>?_) (fun aO ak=>?_)))))))
   ·refine sr (lv (rv_loadmS (ds:=[V6 U.Id,V3 H I J,V3 O R S]) tf77 u m0 Y u u) (lw [V6 U.Id,V3 H I J,V3 O R S] tf77 Y.f2 fun ba ap=>(lv (r_t u) (nq (wc_ret (qe_block_ret (qe_then_ret (qe_then_ret ?_))))))))
    cases oi ak
    cases aA _ u
    refine qe_block_ret (qe_then_ret ?_)
    cases oi an
    refine qe_then_ret ?_
    cases oi V
    exact qe_ret (vs:=[_,_]) results127 ⟨⟨_,_,u,run_loadVar_at tf77 (cs:=[V6 U.Id,V3 H I J,V3 O R S]) (fun j c e=>by rw [Nat.zero_add,ap.mem_obj m0];exact e) (.inl ⟨u,u,u⟩)⟩,u,trivial⟩ ⟨H,I,J,O,R,S,k,u,ap.s,aH,aI,aJ⟩
   refine wc_skip (qe_block (qg (lv (rv_add_to u u (w64_succ hi57 (SliceAt.max aa))) (mv u (wl_nil ?_)))))
   cases oi ak
   exact qd ⟨_,u,q,s,x,y,D,G,k,u,Y.s,X,ah,ai,aj⟩
  rintro o _ ay aP ⟨q,s,x,y,D,G,k,rfl,W,X,ah,ai,aj⟩
  subst aP
  refine sr (lv (rv_lss u u) (ns (wc_cond_f u (decide_eq_false (by omega)) (wc_exit (qe_then_exit (qe_then_exit (qe_block_eq ?_)))))))
  cases oi an
  exact qd ⟨_,q,s,x,y,D,G,k,u,u,W,X,ah,ai,aj⟩
 rintro _ bb ⟨l,ab,ac,ad,ae,af,ag,m,rfl,rfl,aQ,bc,bd,be,bf⟩
 have V:=elim_l V
 refine qr (lv (rv_build (cs:=#[V6 0,V3 none 0 0,V3 none 0 0]) sp77 tf77 u (by kernel_rfl)) (lw [V6 0,V3 none 0 0,V3 none 0 0] tf77 aQ.f1 fun bg aq=>(lv (r_f u) (nq (wc_ret ?_)))))
 cases oi V
 exact qe_ret (vs:=[_,_]) results127 ⟨⟨_,_,u,run_loadVar_at tf77 (cs:=[V6 0,V3 none 0 0,V3 none 0 0]) (fun j c e=>by rw [Nat.zero_add,aq.mem_obj m0];exact e) (.inl ⟨u,u,u⟩)⟩,u,trivial⟩ ⟨none,0,0,none,0,0,m,u,aq.s,d_0,(SliceAt.nil _ _),(SliceAt.nil _ _)⟩

theorem ok_impl_liveOk {q0:GConf}{q1:GLive}{r:Bool}(hS:SH w K [] w K [])(ak:SliceAt tStr K A a b q0.Stops)(am:SliceAt tGSyn K B c d q0.Syns)(T:SliceAt tGDoc K C f i q1.Seg.Docs)(U:SliceAt tGEntry K D k l q1.Seg.Entries)(y:SliceAt tInt K G m n q1.Dead)(hm:M.impl_liveOk F q0 q1=some r):
  Calls prog 60 #[.agg #[V3 A a b,V3 B c d],.agg #[V3 C f i,V3 D k l,V3 G m n]] w (R_b w K r):=by
 rw [M.impl_liveOk] at hm
 refine ci func60 u ntmps60 (sr (bx u hS fun an bp ao=>?_))
 have ap:SH _ _ _ _ _ [obj an [V3 A a b,V3 B c d] 33]:=ao
 refine bx u ap fun s bq aq=>?_
 have I:SH _ _ _ _ _ [obj s [V3 C f i,V3 D k l,V3 G m n] 73,_]:=aq
 refine lv (r_f u) (ns (wc_seq ?_))
 obtain⟨ar,au,aw⟩:=ob hm
 refine wc_cutg (IV w K [] K [(3,pt s),(19,.bool ar)] [obj s [V3 C f i,V3 D k l,V3 G m n] 73]) ?_ ?_
 ·refine wc_region (lv (rv_loadmS (ds:=[V3 A a b,V3 B c d]) tf33 u m1 I u u) (fa ff73_0 u (lv (rv_loadmS (ds:=[V3 C f i,V3 D k l]) tf46 u m0 I u u) ?_)))
  obtain⟨br,ax,ay⟩:=ob au
  refine lk co94 (ok_impl_SegOk F I.enter0 ak am T U ax) ?_
  rintro bs bu ⟨az,rfl,J⟩
  have O:=(I.c0 J).t2
  refine lv (rv_not u) (mv u (bt ay (fun o V=>?_) (fun o V=>?_)))
  ·refine lu o (lu o (lu o (lu o (lv (p_t u o u) (wl_nil ?_)))))
   cases oi V
   exact qd ⟨az,u,O.s,J.le⟩
  refine lg o (rv_fieldAddr ff73_1 u) (lg o (rv_loadm1 tf71 u m0 O u) ?_)
  obtain⟨bv,aA,aB⟩:=ob V
  refine wl_call (wg u u o) u (rt_call (vs:=[V3 G m n]) co126 u) (ok_impl_UpOk F O.enter0 (y.mono J.le) aA) ?_
  rintro bz bA ⟨aC,rfl,ac⟩
  refine⟨_,u,?_⟩
  have aD:=(O.c0 ac).t2
  refine lg o (rv_not u) (lv (rv_pick_f u o u) (wl_nil ?_))
  cases oi aB
  exact qd ⟨aC,u,aD.s,(J.le.trans ac.le)⟩
 rintro _ bB ⟨R,rfl,W,q⟩
 refine qe_seq (wcc aw u (fun aE X=>?_) (fun aE X=>?_))
 ·refine sr (lv (r_f u) (nq (rr ?_)))
  cases oi X
  exact ey results60 ⟨R,u,W.s⟩
 refine wc_skip (qs (sr (fl ff73_1 u tf71 m0 W u (lv (rv_len underlying71 u (y.mono q)) (lv (r_m u) (nq ?_))))))
 obtain⟨aF,aG,S⟩:=ob X
 refine wc_cutg (IE aF w K [] R [(3,pt s)] [obj s [V3 C f i,V3 D k l,V3 G m n] 73]) ?_ ?_
 ·refine wc_block ?_
  obtain⟨bC,aH,ad⟩:=ob aG
  refine qf (fun (ae:Nat) (af:Unit)=>IV w K [] R [(3,pt s),(21,V3 G m n),(22,V6 (q1.Dead.length:Int)),(23,V6 ((ae:Nat):Int))] [obj s [V3 C f i,V3 D k l,V3 G m n] 73]) aH ⟨R,u,W,kr⟩ ?_ ?_
  ·rintro ae af _ aI bD hi77 aJ aK ⟨ag,rfl,H,x⟩
   refine sr (lv (rv_lss u u) (ns (wc_cond_t u (decide_eq_true (by omega)) (wc_skip (qe_seq (wc_seq (wc_block (sr ?_))))))))
   obtain⟨aL,aM,aN⟩:=ob aJ
   refine li underlying71 tf3 (y.mono (q.trans x)) aM fun aO aP bE aQ aR=>?_
   obtain⟨rfl,aS⟩:=aQ
   have aT:AtK _ aO aP [V6 aL]:=aR
   refine lv (rv_load1 tf3 u H (aT 0 _ u)) (av u (nr (fa ff73_0 u (mv u ?_))))
   obtain⟨aU,aV,aW⟩:=ob aN
   refine lk co127 (ok_impl_Seg_doc__ofGLive0 F H.e1 (T.mono (q.trans x)) (U.mono (q.trans x)) (y.mono (q.trans x)) aS aV) ?_
   rintro bF bG ⟨aX,aY,aZ,ba,bb,bc,ah,rfl,ai,bH,bI,bJ⟩
   have bd:=(H.c1 ai).t1
   refine mv u (lv (rv_extract u u) (lv (rv_extract u u) (al tf77 bd fun be bK bf=>?_)))
   have bg:SH _ _ _ _ _ [obj be [V6 0,V3 none 0 0,V3 none 0 0] 77,_]:=bf
   refine lw [V6 aU.1.Id,V3 aX aY aZ,V3 ba bb bc] tf77 bg fun bL aj=>(av u (nr (mv u (lv (rv_not u) (nq (wcc aW u (fun bh Y=>?_) (fun bh Y=>?_)))))))
   ·refine sr (lv (r_f u) (nq (wc_ret (qe_block_ret (qe_then_ret (qe_then_ret ?_))))))
    cases oi Y
    cases aK _ u
    refine qe_block_ret (qe_then_ret ?_)
    cases oi ad
    refine qe_then_ret ?_
    cases oi S
    exact ey results60 ⟨ah,u,aj.s⟩
   refine wc_skip (qe_block (qg (lv (rv_add_to u u (w64_succ hi77 (SliceAt.max (y.mono q)))) (mv u (wl_nil ?_)))))
   cases oi Y
   exact qd ⟨_,u,ah,u,aj.s,(x.trans ai.le)⟩
  rintro af _ aI bi ⟨ag,rfl,H,x⟩
  subst bi
  refine sr (lv (rv_lss u u) (ns (wc_cond_f u (decide_eq_false (by omega)) (wc_exit (qe_then_exit (qe_then_exit (qe_block_eq ?_)))))))
  cases oi ad
  exact qd ⟨_,ag,u,u,H,x⟩
 rintro _ bM ⟨bN,bO,rfl,rfl,aa,ab⟩
 have S:=elim_l S
 refine qr (lv (rv_loadmS (ds:=[V3 C f i,V3 D k l,V3 G m n]) tf73 u m0 aa u u) ?_)
 obtain⟨bP,bj,bk⟩:=ob S
 refine lk co128 (ok_impl_Live_alive F aa.enter0 (T.mono (q.trans ab)) (U.mono (q.trans ab)) (y.mono (q.trans ab)) bj) ?_
 rintro bQ bR ⟨bS,bT,bU,bl,rfl,bm,bn⟩
 have bo:=(aa.c0 bm).t2
 refine lv (rv_len underlying43 u bn) (lv (rv_gtr u u) (av u (nq (wc_ret ?_))))
 cases oi bk
 exact ey results60 ⟨bl,u,bo.s⟩

theorem ok_cmp_isNaN_int {q0:Int}{r:Bool}(hS:SH w K [] w K [])(a:rng64 q0)(hm:M.cmp_isNaN_int F q0=some r):
  Calls prog 189 #[V6 q0] w (R_b w K r):=by
 rw [M.cmp_isNaN_int] at hm
 refine ci func189 u ntmps189 (sr (lv (r_f u) (nr (mv u (mv u (lv (rv_neq u u) (av u (nq (wc_ret ?_)))))))))
 cases oi hm
 exact ey results189 ⟨K,u,hS⟩

theorem ok_cmp_Compare_int {q0:Int}{q1:Int}{r:Int}(hS:SH w K [] w K [])(m:rng64 q0)(o:rng64 q1)(hm:M.cmp_Compare_int F q0 q1=some r):
  Calls prog 131 #[V6 q0,V6 q1] w (R_i w K r):=by
 rw [M.cmp_Compare_int] at hm
 refine ci func131 u ntmps131 (sr (lv (r_0 u) (nr (mv u ?_))))
 obtain⟨J,q,s⟩:=ob hm
 refine lk co189 (ok_cmp_isNaN_int F hS.enter0 m q) ?_
 rintro O R ⟨S,rfl,x⟩
 have l:=(hS.c0 x).t0
 refine av u (nr (mv u ?_))
 obtain⟨T,y,A⟩:=ob s
 refine lk co189 (ok_cmp_isNaN_int F l.enter0 o y) ?_
 rintro U V ⟨a,rfl,B⟩
 have b:=(l.c0 B).t0
 refine av u (nsr (mv u (nq (wcc A u (fun C c=>?_) (fun C c=>?_)))))
 ·refine wc_seq (sr (mv u (nq (wcc c u (fun D d=>?_) (fun D d=>?_)))))
  ·refine sr (lv (r_0 u) (nq (rr (qe_then_ret ?_))))
   cases oi d
   exact ey results131 ⟨a,u,b,d_0⟩
  refine wc_skip (qr (lv (rv_assign (v:=V6 (-1)) u) (nq (rr ?_))))
  cases oi d
  exact ey results131 ⟨a,u,b,(by decide :rng64 (-1))⟩
 refine wc_skip (qs (sr (mv u (nq (wcc c u (fun G f=>?_) (fun G f=>?_))))))
 ·refine sr (lv (rv_assign (v:=V6 1) u) (nq (rr ?_)))
  cases oi f
  exact ey results131 ⟨a,u,b,(by decide :rng64 1)⟩
 refine wc_skip (qs (sr (mv u (mv u (lv (rv_lss u u) (nq (wcc f u (fun H i=>?_) (fun H i=>?_))))))))
 ·refine sr (lv (rv_assign (v:=V6 (-1)) u) (nq (rr ?_)))
  cases oi i
  exact ey results131 ⟨a,u,b,(by decide :rng64 (-1))⟩
 refine wc_skip (qs (sr (mv u (mv u (lv (rv_gtr u u) (nq (wcc i u (fun I k=>?_) (fun I k=>?_))))))))
 ·refine sr (lv (rv_assign (v:=V6 1) u) (nq (rr ?_)))
  cases oi k
  exact ey results131 ⟨a,u,b,(by decide :rng64 1)⟩
 refine wc_skip (qr (lv (r_0 u) (nq (wc_ret ?_))))
 cases oi k
 exact ey results131 ⟨a,u,b,d_0⟩

theorem ok_impl_allAlive_1 {q0:GDoc}{q1:GDoc}{r:Int}(hS:SH w K [] w K [])(o:rng64 q0.Id)(U:SliceAt tGField K A a b q0.Fields)(V:SliceAt tGAttr K B c d q0.Nums)(q:rng64 q1.Id)(W:SliceAt tGField K C f i q1.Fields)(X:SliceAt tGAttr K D k l q1.Nums)(hm:M.impl_allAlive_1 F q0 q1=some r):
  Calls prog 130 #[.agg #[V6 q0.Id,V3 A a b,V3 B c d],.agg #[V6 q1.Id,V3 C f i,V3 D k l]] w (R_i w K r):=by
 rw [M.impl_allAlive_1] at hm
 refine ci func130 u ntmps130 (sr (bx u hS fun s Y x=>?_))
 have y:SH _ _ _ _ _ [obj s [V6 q0.Id,V3 A a b,V3 B c d] 77]:=x
 refine bx u y fun G aa H=>?_
 have m:SH _ _ _ _ _ [obj G [V6 q1.Id,V3 C f i,V3 D k l] 77,_]:=H
 refine lv (r_0 u) (nr (fl ff77_0 u tf3 m1 m u (fl ff77_0 u tf3 m0 m u ?_)))
 obtain⟨ab,I,J⟩:=ob hm
 refine lk co131 (ok_cmp_Compare_int F m.enter0 o q I) ?_
 rintro ac ad ⟨O,rfl,R,S⟩
 have T:=(m.c0 R).t2
 refine av u (nq (wc_ret ?_))
 cases oi J
 exact ey results130 ⟨O,u,T.s,S⟩

theorem ok_impl_allAlive {q0:List GLive}{r:(List GDoc)}(hS:SH w K [] w K [])(C:SliceAt tGLive K A a b q0)(hm:M.impl_allAlive F q0=some r):
  Calls prog 61 #[V3 A a b] w fun e w'=>∃a_1 n_2 c_3 K' ys,e= .returned (V3 a_1 n_2 c_3)∧SH w K [] w' K' [tail (V3 a_1 n_2 c_3) 77 3]∧SliceAt tGDoc K' a_1 n_2 c_3 ys∧ys.Perm r∧ys.Pairwise (fun a b=>a.Id≤b.Id):=by
 have hbX:=alive_bound hm
 rw [M.impl_allAlive] at hm
 refine ci func61 rfl ntmps61 (sr (lv (r_n rfl) (nr (wl_buildSlice0R tGDoc wn rfl underlying43 tf77 hS fun a5 w6 ac=>(av rfl (nsr (mv rfl (lv (rv_len underlying34 rfl C) (lv (r_m rfl) ?_)))))))))
 refine nq ?_
 obtain⟨Y,h9,ae⟩:=ob hm
 refine wc_cutg (fun E' w'=>∃i c k cs18 o,E'=[(3,V3 i c k)]∧SH w K [] w' o [rowI (V3 i c k) cs18 77 3]∧KLe K o∧RowAt true tGDoc o cs18 Y∧c=Y.length) ?_ ?_
 ·refine wc_block ?_
  obtain⟨bc,af,ag⟩:=ob h9
  refine qF (fun (aa:Nat) (q:(List GDoc)) E' w'=>∃l d m cs33 f,E'=[(3,V3 l d m),(7,V3 A a b),(8,V6 (q0.length:Int)),(9,V6 ((aa:Nat):Int))]∧SH w K [] w' f [rowI (V3 l d m) cs33 77 3]∧KLe K f∧RowAt true tGDoc f cs33 q∧d=q.length) af ⟨a5,0,0,[],K,rfl,ac,kr,(RowAt.nil tGDoc _),rfl⟩ ?_ ?_
  ·rintro aa q _ ah bd hi37 ai ⟨l,d,m,cs33,f,rfl,s,B,hrow34,hm35⟩
   refine sr (lv (rv_lss rfl rfl) (ns (wc_cond_t rfl (decide_eq_true (by omega)) (wc_skip (qe_seq (wc_seq (wc_block (sr ?_))))))))
   obtain⟨be,aj,ak⟩:=ob ai
   refine li underlying34 tf73 (C.mono B) aj fun am an bf ao ap=>?_
   obtain⟨D,G,H,I,J,O,R,S,U,rfl,aq,ar,au⟩:=ao
   have aw:AtK _ am an [V3 D G H,V3 I J O,V3 R S U]:=ap
   refine lv (rv_loadS tf73 rfl s aw rfl) (al tf73 s fun ax bg ay=>?_)
   have az:SH _ _ _ _ _ [obj ax [V3 none 0 0,V3 none 0 0,V3 none 0 0] 73,_]:=ay
   refine lw [V3 D G H,V3 I J O,V3 R S U] tf73 az fun bh V=>(nq (wc_region (mv rfl (lv (rv_loadmS (ds:=[V3 D G H,V3 I J O,V3 R S U]) tf73 rfl m0 V rfl rfl) ?_))))
   obtain⟨bi,aA,aB⟩:=ob ak
   refine lk co128 (ok_impl_Live_alive F V.enter0 aq ar au aA) ?_
   rintro bj bk ⟨bl,bm,bn,aC,rfl,X,aD⟩
   have aE:=(V.c0 X).t3
   obtain⟨bo,aF,aG⟩:=ob aB
   refine wl_appendR (t:=tGDoc) wn rfl underlying43 tf77 rfl rfl rfl rfl (RowAt.mono X.le hrow34) hm35 aD aF aE.f2 fun aH aI aJ cs86 bp hrow88 hm89 aK=>(av rfl (nb (qg (lv (rv_add_to rfl rfl (w64_succ hi37 (SliceAt.max C))) (mv rfl (wl_nil ?_))))))
   cases oi aG
   exact qd ⟨aH,aI,aJ,cs86,aC,rfl,aK.s,(B.trans X.le),hrow88,hm89⟩
  rintro q _ ah aL ⟨l,d,m,cs33,f,rfl,s,B,hrow34,hm35⟩
  subst aL
  refine sr (lv (rv_lss rfl rfl) (ns (wc_cond_f rfl (decide_eq_false (by omega)) (wc_exit (qe_then_exit (qe_then_exit (qe_block_eq ?_)))))))
  cases oi ag
  exact qd ⟨l,d,m,cs33,f,rfl,s,B,hrow34,hm35⟩
 rintro _ bq ⟨i,c,k,cs18,o,rfl,aM,br,hrow19,hm20⟩
 refine qr (mv rfl ?_)
 cases oi ae
 have hlX:=alive_len hbX
 refine wl_call wn rfl (rt_call (vs:=[V3 i c k,.func (.func 130) #[] #[]]) co129 rfl) (sort_rowP (T:=tGDoc) sortLay129 sortNone129 rfl (fun w=>Go.Fk.run_isAgg tf77 w) (fun w=>Go.Fk.run_sizeOf tf77 w) (fun a b=>M.impl_allAlive_1 F a b) 130 (Go.Proofs.enters_of func130 (by kernel_rfl) rfl) aM hrow19 hm20 (fun K1 W v x u y r hW h1 h2 hm=>by
  obtain⟨bv,bx,bz,bA,bB,bC,rfl,aR,aS,aT⟩:=h1
  obtain⟨bD,bE,bF,bG,bH,bI,rfl,aU,aV,aW⟩:=h2
  exact(ok_impl_allAlive_1 (dr:=⟨True⟩) F (SH.start (dr:=⟨True⟩) hW) aR aS aT aU aV aW hm).mono fun e w' ⟨K',he,hS',_⟩=>⟨K',he,hS'⟩) hlX (alive_some F _) (alive_irr F _) (alive_tr F _) (alive_ntr F _)) ?_
 rintro bJ bK ⟨cs114,ysX,rfl,aX,hrow116,hm117,hpX,hwX⟩
 refine⟨_,rfl,?_⟩
 refine nr (mv rfl (av rfl (nq (wc_ret ?_))))
 obtain⟨aY,bL,aZ,ba⟩:=SH.freezeI aX hrow116 hm117
 exact ey results61 ⟨i,c,k,aY,ysX,rfl,ba,aZ,hpX,alive_up hwX⟩

theorem ok_impl_IndexOk {q0:GIndex}{r:Bool}(hS:SH w K [] w K [])(ae:SliceAt tStr K A a b q0.Conf.Stops)(af:SliceAt tGSyn K B c d q0.Conf.Syns)(q:SliceAt tGLive K C f i q0.Segs)(hm:M.impl_IndexOk F q0=some r):
  Calls prog 14 #[.agg #[V3 A a b,V3 B c d,V3 C f i]] w (R_b w K r):=by
 rw [M.impl_IndexOk] at hm
 refine ci func14 u ntmps14 (sr (bx u hS fun l bh aq=>?_))
 have H:SH _ _ _ _ _ [obj l [V3 A a b,V3 B c d,V3 C f i] 36]:=aq
 refine lv (r_f u) (ns (wc_seq ?_))
 obtain⟨ar,au,aw⟩:=ob hm
 refine wc_cutg (IV w K [] K [(1,pt l),(14,.bool ar)] [obj l [V3 A a b,V3 B c d,V3 C f i] 36]) ?_ ?_
 ·refine wc_region (fa ff36_0 u (lv (rv_loadmS (ds:=[V3 A a b,V3 B c d]) tf33 u m0 H u u) ?_))
  obtain⟨bi,ax,ay⟩:=ob au
  refine lk co59 (ok_impl_ConfOk F H.enter0 ae af ax) ?_
  rintro bj bk ⟨ag,rfl,s⟩
  have I:=(H.c0 s).t1
  refine lv (rv_not u) (mv u (bt ay (fun k J=>?_) (fun k J=>?_)))
  ·refine lu k (lu k (lu k (lu k (lv (p_t u k u) (wl_nil ?_)))))
   cases oi J
   exact qd ⟨ag,u,I,s.le⟩
  refine lg k (rv_fieldAddr ff36_1 u) (lg k (rv_loadm1 tf34 u m0 I u) (lg k (rv_len underlying34 u (q.mono s.le)) (lg k (rv_gtr u u) (lv (rv_pick_f u k u) (wl_nil ?_)))))
  cases oi J
  exact qd ⟨ag,u,I,s.le⟩
 rintro _ bl ⟨x,rfl,O,m⟩
 refine qe_seq (wcc aw u (fun az R=>?_) (fun az R=>?_))
 ·refine sr (lv (r_f u) (nq (rr ?_)))
  cases oi R
  exact ey results14 ⟨x,u,O.s⟩
 refine wc_skip (qs (sr (fl ff36_1 u tf34 m0 O u (lv (rv_len underlying34 u (q.mono m)) (lv (r_m u) (nq ?_))))))
 obtain⟨aA,aB,y⟩:=ob R
 refine wc_cutg (IE aA w K [] x [(1,pt l)] [obj l [V3 A a b,V3 B c d,V3 C f i] 36]) ?_ ?_
 ·refine wc_block ?_
  obtain⟨bm,aC,ah⟩:=ob aB
  refine qf (fun (ai:Nat) (aj:Unit)=>IV w K [] x [(1,pt l),(16,V3 C f i),(17,V6 (q0.Segs.length:Int)),(18,V6 ((ai:Nat):Int))] [obj l [V3 A a b,V3 B c d,V3 C f i] 36]) aC ⟨x,u,O,kr⟩ ?_ ?_
  ·rintro ai aj _ aD bn hi55 aE aF ⟨ak,rfl,D,o⟩
   refine sr (lv (rv_lss u u) (ns (wc_cond_t u (decide_eq_true (by omega)) (wc_skip (qe_seq (wc_seq (wc_block (sr ?_))))))))
   obtain⟨bo,aG,aH⟩:=ob aE
   refine li underlying34 tf73 (q.mono (m.trans o)) aG fun aI aJ bp aK aL=>?_
   obtain⟨S,T,U,V,W,X,Y,aa,ab,rfl,aM,aN,aO⟩:=aK
   have aP:AtK _ aI aJ [V3 S T U,V3 V W X,V3 Y aa ab]:=aL
   refine lv (rv_loadS tf73 u D aP u) (al tf73 D fun aQ bq aR=>?_)
   have aS:SH _ _ _ _ _ [obj aQ [V3 none 0 0,V3 none 0 0,V3 none 0 0] 73,_]:=aR
   refine lw [V3 S T U,V3 V W X,V3 Y aa ab] tf73 aS fun br G=>(nr (fa ff36_0 u (lv (rv_loadmS (ds:=[V3 A a b,V3 B c d]) tf33 u m1 G u u) (lv (rv_loadmS (ds:=[V3 S T U,V3 V W X,V3 Y aa ab]) tf73 u m0 G u u) ?_))))
   obtain⟨bs,aT,aU⟩:=ob aH
   refine lk co60 (ok_impl_liveOk F G.enter0 (ae.mono (m.trans o)) (af.mono (m.trans o)) aM aN aO aT) ?_
   rintro bu bv ⟨am,rfl,an⟩
   have ao:=(G.c0 an).t2
   refine lv (rv_not u) (nq (wcc aU u (fun aV ac=>?_) (fun aV ac=>?_)))
   ·refine sr (lv (r_f u) (nq (wc_ret (qe_block_ret (qe_then_ret (qe_then_ret ?_))))))
    cases oi ac
    cases aF _ u
    refine qe_block_ret (qe_then_ret ?_)
    cases oi ah
    refine qe_then_ret ?_
    cases oi y
    exact ey results14 ⟨am,u,ao.s⟩
   refine wc_skip (qe_block (qg (lv (rv_add_to u u (w64_succ hi55 (SliceAt.max (q.mono m)))) (mv u (wl_nil ?_)))))
   cases oi ac
   exact qd ⟨_,u,am,u,ao.s,(o.trans an.le)⟩
  rintro aj _ aD aW ⟨ak,rfl,D,o⟩
  subst aW
  refine sr (lv (rv_lss u u) (ns (wc_cond_f u (decide_eq_false (by omega)) (wc_exit (qe_then_exit (qe_then_exit (qe_block_eq ?_)))))))
  cases oi ah
  exact qd ⟨_,ak,u,u,D,o⟩
 rintro _ bz ⟨bA,bB,rfl,rfl,ad,aX⟩
 have y:=elim_l y
 refine qr (fl ff36_1 u tf34 m0 ad u ?_)
 obtain⟨bC,aY,aZ⟩:=ob y
 refine lk co61 (ok_impl_allAlive F ad.enter0 (q.mono (m.trans aX)) aY) ?_
 rintro bD bE ⟨bF,bG,bH,bI,ysX,rfl,ba,bb,hpX,hwX⟩
 have ap:=(ad.c0 ba).t2
 obtain⟨bJ,bc,bd⟩:=ob aZ
 refine lk co45 (ok_impl_DocsOk F ap.enter0 bb ((docsT_any F (alive_fit (alive_bound aY)) hpX hwX).trans bc)) ?_
 rintro bK bL ⟨be,rfl,bf⟩
 have bg:=(ap.c0 bf).t2
 refine av u (nq (wc_ret ?_))
 cases oi bd
 exact ey results14 ⟨be,u,bg.s⟩
end Go.Proofs.YtpjefkdclnmlfaaGreat
