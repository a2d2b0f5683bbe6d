/-
 Walks of the functions. Printed by gen.py.
-/
import Derived.Test.YtpjefkdclnmlfaaGreatLawDocsT
import Derived.Test.YtpjefkdclnmlfaaGreatCoreQp
import Derived.Test.YtpjefkdclnmlfaaGreatWalkA0
import Derived.Test.YtpjefkdclnmlfaaGreatWalkA2
import Derived.Test.YtpjefkdclnmlfaaGreatWalkA3
import Derived.Test.YtpjefkdclnmlfaaGreatWalkA4
set_option linter.unusedVariables false
set_option linter.unusedSectionVars false
set_option maxRecDepth 100000
namespace Go.Proofs.YtpjefkdclnmlfaaGreat
set_option maxHeartbeats 4000000
open Go Go.Fk Go.RowKit Tryz
variable (F:Nat){w:World}{K:KMap}{Z:List Nat}{g1 g2 g3:Nat}{A B C D G H I J O R S T:Option Addr}{a b c d f i k l m n o p q s v x y aa ab ac ad ae af ag:Nat}
variable [dr:Dr]

theorem ok_impl_IndexDocs {q0:GIndex}{r:(List GDoc)}(hS:SH w K [] w K [])(G:SliceAt tStr K A a b q0.Conf.Stops)(H:SliceAt tGSyn K B c d q0.Conf.Syns)(o:SliceAt tGLive K C f i q0.Segs)(hm:M.impl_IndexDocs F q0=some r):
  Calls prog 37 #[.agg #[V3 A a b,V3 B c d,V3 C f i]] w fun e w'=>∃a_1 n_2 c_3 K',e= .returned (V3 a_1 n_2 c_3)∧SH w K [] w' K' [tail (V3 a_1 n_2 c_3) 77 3]∧SliceAt tGDoc K' a_1 n_2 c_3 r:=by
 rw [M.impl_IndexDocs] at hm
 refine ci func37 u ntmps37 (sr (bx u hS fun I ai J=>?_))
 have l:SH _ _ _ _ _ [obj I [V3 A a b,V3 B c d,V3 C f i] 36]:=J
 refine lv (r_n u) (nsr (lv (rv_loadmS (ds:=[V3 A a b,V3 B c d,V3 C f i]) tf36 u m0 l u u) ?_))
 obtain⟨aj,q,O⟩:=ob hm
 refine lk co14 (ok_impl_IndexOk F l.enter0 G H o q) ?_
 rintro ak al ⟨am,rfl,s⟩
 have k:=(l.c0 s).t1
 refine lv (rv_not u) (nq (wcc O u (fun x m=>?_) (fun x m=>?_)))
 ·refine sr (b0 tGDoc underlying43 tf77 k fun R an S ao T U=>(av u (nq (rr ?_))))
  cases oi m
  exact ey results37 ⟨R,0,0,S,u,U.s,T⟩
 refine wc_skip (qr (fl ff36_1 u tf34 m0 k u ?_))
 obtain⟨ap,y,V⟩:=ob m
 refine lk co61 (ok_impl_allAlive F k.enter0 (o.mono s.le) y) ?_
 rintro aq ar ⟨au,aw,ax,ay,ysX,rfl,W,X,hpX,hwX⟩
 have eX:=index_any q x y hpX hwX
 subst eX
 have D:=(k.c0 W).t2
 obtain⟨az,Y,aa⟩:=ob V
 refine lk co72 (ok_impl_cloneDocs F D.enter0 X Y) ?_
 rintro aA aB ⟨ab,ac,ad,ae,rfl,af,ag⟩
 have ah:=(D.c0 af).t3
 refine av u (nq (wc_ret ?_))
 cases oi aa
 exact ey results37 ⟨ab,ac,ad,ae,u,ah.s,ag⟩

theorem ok_spec_l30Rd_pick {q0:GL30Rd}{q1:Int}{r:Int×GL30Rd}(hS:SH w K Z w K [obj g1 [V3 A a b,V6 q0.p_] 208])(c:SliceAt tU8 K A a b q0.b_)(aF:rng64 q0.p_)(aG:rng64 q1)(hm:M.spec_l30Rd_pick F q0 q1=some r):
  Calls prog 106 #[.pointer (some ⟨g1,0,none⟩),V6 q1] w fun e w'=>∃a_2 n_3 c_4 K',e= .returned (V6 r.1)∧SH w K Z w' K' [obj g1 [V3 a_2 n_3 c_4,V6 r.2.p_] 208]∧rng64 r.1∧SliceAt tU8 K' a_2 n_3 c_4 r.2.b_∧rng64 r.2.p_:=by
 rw [M.spec_l30Rd_pick] at hm
 refine ci func106 u ntmps106 (sr (lv (r_0 u) (nr (mv u (mv u (lv (rv_nilCheck u) (fl ff208_1 u tf3 m0 hS u (lv (rv_add u u) (lv (rv_nilCheck u) ?_)))))))))
 refine fa ff208_1 u (ls [V3 A a b,V6 (w64 (q0.p_+(1:Int)))] (V6 (w64 (q0.p_+(1:Int)))) tf3 hS fun w9 k=>(ns (wc_seq ?_)))
 obtain⟨y,B,C⟩:=ob hm
 refine wc_cutg (IV w K Z K [(0,pt g1),(1,V6 q1),(24,.bool y)] [obj g1 [V3 A a b,V6 (w64 (q0.p_+(1:Int)))] 208]) ?_ ?_
 ·refine wc_region (mv u (lv (rv_lss u u) (mv u (bt B (fun d l=>?_) (fun d l=>?_)))))
  ·iterate 6 refine lu d ?_
   refine lv (p_t u d u) (wl_nil ?_)
   cases oi l
   exact qd ⟨K,u,k,kr⟩
  refine lg d (rv_move u) (lg d (rv_nilCheck u) (lg d (rv_fieldAddr ff208_0 u) (lg d (rv_loadm1 tf69 u m0 k u) (lg d (rv_len underlying69 u c) (lg d (rv_eql u u) (lv (rv_pick_f u d u) (wl_nil ?_)))))))
  cases oi l
  exact qd ⟨K,u,k,kr⟩
 rintro _ aI ⟨q,rfl,i,f⟩
 refine qe_seq (wcc C u (fun D m=>?_) (fun D m=>?_))
 ·refine sr (lv (r_0 u) (nq (rr ?_)))
  cases oi m
  exact ey results106 ⟨A,a,b,q,u,i,d_0,(c.mono f),(w64_rng _)⟩
 refine wc_skip (qr (mv u (lv (rv_nilCheck u) (fl ff208_1 u tf3 m0 i u (lv (rv_sub u u) (av u (nsr (mv u (mv u ?_)))))))))
 refine lv (rv_nilCheck u) (fl ff208_0 u tf69 m0 i u (lv (rv_len underlying69 u (c.mono f)) (lv (rv_lss u u) (nq (wcc m u (fun G o=>?_) (fun G o=>?_))))))
 ·refine sr (mv u (lv (rv_nilCheck u) (fl ff208_0 u tf69 m0 i u (mv u ?_))))
  obtain⟨H,I,J⟩:=ob o
  refine li underlying69 tf5 (c.mono f) I fun O R aJ S T=>?_
  obtain rfl:=S
  have U:AtK _ O R [iv8 H]:=T
  refine lv (rv_load1 tf5 u i (U 0 _ u)) (lv (rv_b2i underlying5 underlying3 u) (mv u ?_))
  obtain⟨aK,s,V⟩:=ob J
  refine lv (rv_rem u u s) (av u (nq (rr ?_)))
  cases oi V
  exact ey results106 ⟨A,a,b,q,u,i,(rng_rem (rng_u8 _) s),(c.mono f),(w64_rng _)⟩
 refine wc_skip (qs (wc_quiet mixed (by kernel_rfl) i (km u (kv (rv_nilCheck u) (kv (rv_fieldAddr ff208_0 u) (kh (rq_loadm1 tf69 u m0 u) (km u (km u (kv (rv_nilCheck u) ?_)))))))))
 refine kv (rv_fieldAddr ff208_0 u) (kh (rq_loadm1 tf69 u m0 u) (kv (rv_len underlying69 u (c.mono f)) ?_))
 obtain⟨aL,W,X⟩:=ob o
 refine kv (rv_rem u u W) ?_
 obtain⟨Y,aa,ab⟩:=ob X
 refine ki underlying69 tf5 (c.mono f) aa fun ac ad aM ae af=>?_
 obtain rfl:=ae
 have ag:AtK _ ac ad [iv8 Y]:=af
 refine kh (rq_load1 tf5 u (ag 0 _ u)) (kv (rv_b2i underlying5 underlying3 u) (kv (rv_mul u u) (km u (kv (rv_nilCheck u) (kv (rv_fieldAddr ff208_0 u) (kh (rq_loadm1 tf69 u m0 u) (km u (kv (rv_mul u u) (kv (rv_add u u) ?_)))))))))
 refine km u (kv (rv_nilCheck u) (kv (rv_fieldAddr ff208_0 u) (kh (rq_loadm1 tf69 u m0 u) (kv (rv_len underlying69 u (c.mono f)) ?_))))
 obtain⟨aN,ah,ai⟩:=ob ab
 refine kv (rv_rem u u ah) ?_
 obtain⟨aj,ak,al⟩:=ob ai
 refine ki underlying69 tf5 (c.mono f) ak fun am an aO ao ap=>?_
 obtain rfl:=ao
 have aq:AtK _ am an [iv8 aj]:=ap
 refine kh (rq_load1 tf5 u (aq 0 _ u)) (kv (rv_b2i underlying5 underlying3 u) (kv (rv_mul u u) (kv (rv_add u u) (km u (kv (rv_mul u u) (kv (rv_add u u) (km u (km u (kv (rv_nilCheck u) ?_)))))))))
 refine kv (rv_fieldAddr ff208_0 u) (kh (rq_loadm1 tf69 u m0 u) (kv (rv_len underlying69 u (c.mono f)) ?_))
 obtain⟨aP,ar,au⟩:=ob al
 refine kv (rv_quo u u ar) (kv (rv_mul u u) (kv (rv_add u u) ?_))
 obtain⟨aQ,aw,ax⟩:=ob au
 have ay:=oi aw
 refine kv (rv_as u (congrArg (Value.int .i64) ay)) (wq_nil ?_)
 rintro aR ⟨az,aA,aB⟩
 refine qr (mv u (mv u ?_))
 obtain⟨aS,aC,aD⟩:=ob ax
 refine lv (rv_quo u u aC) (lv (rv_xor u u) (av u (nr (mv u (mv u ?_)))))
 obtain⟨aT,x,aE⟩:=ob aD
 refine lv (rv_rem u u x) (av u (nq (wc_ret ?_)))
 cases oi aE
 exact ey results106 ⟨A,a,b,az,u,aA,(rng_rem (w64_rng _) x),(c.mono (f.trans aB)),(w64_rng _)⟩

theorem ok_spec_l18CopyConf {q0:GConf}{r:GConf}(hS:SH w K [] w K [])(aE:SliceAt tStr K A a b q0.Stops)(ai:SliceAt tGSyn K B c d q0.Syns)(hm:M.spec_l18CopyConf F q0=some r):
  Calls prog 173 #[.agg #[V3 A a b,V3 B c d]] w fun e w'=>∃a_1 n_2 c_3 a_5 n_6 c_7 K',e= .returned (.agg #[V3 a_1 n_2 c_3,V3 a_5 n_6 c_7])∧SH w K [] w' K' [tail (V3 a_1 n_2 c_3) 9 1,tail (V3 a_5 n_6 c_7) 159 2]∧SliceAt tStr K' a_1 n_2 c_3 r.Stops∧SliceAt tGSyn K' a_5 n_6 c_7 r.Syns:=by
 rw [M.spec_l18CopyConf] at hm
 refine ci func173 u ntmps173 (sr (bx u hS fun W bM aF=>?_))
 have aG:SH _ _ _ _ _ [obj W [V3 A a b,V3 B c d] 33]:=aF
 refine al tf33 aG fun S bN aH=>?_
 have aI:SH _ _ _ _ _ [obj S [V3 none 0 0,V3 none 0 0] 33,_]:=aH
 refine nr (b0 tStr underlying22 tf9 aI fun bO bP bQ X aJ ay=>(fl ff33_0 u tf22 m2 ay u ?_))
 obtain⟨bR,aK,aL⟩:=ob hm
 refine lp underlying22 tf9 aJ (aE.mono X) aK ay fun aj ak am bS an ao aM aN=>(lv (rv_build (cs:=#[V3 aj ak am,V3 none 0 0]) sp33 tf33 u (by kernel_rfl)) (al tf33 aN fun G bT aO=>?_))
 have aP:SH _ _ _ _ _ [obj G [V3 none 0 0,V3 none 0 0] 33,_,_,_]:=aO
 refine lw [V3 aj ak am,V3 none 0 0] tf33 aP fun bU aQ=>(nsr (lv (r_0 u) (nq ?_)))
 obtain⟨az,aR,aS⟩:=ob aL
 refine wc_cutg (fun E' w'=>∃m o q s x y H,E'=[(2,pt S),(3,pt G)]∧SH w K [] w' H [obj S [V3 none 0 0,V3 none 0 0] 33,obj G [V3 m o q,V3 s x y] 33,tail (V3 m o q) 9 1,tail (V3 s x y) 159 2]∧KLe an H∧SliceAt tStr H m o q az.Stops∧SliceAt tGSyn H s x y az.Syns) ?_ ?_
 ·refine wc_block ?_
  obtain⟨bV,aT,aU⟩:=ob aR
  have aV:=aQ.nil 159 2
  refine qw (fun (T:Int×GConf) E' w'=>∃i k l I J O C,E'=[(1,pt W),(2,pt S),(3,pt G),(4,V6 T.1)]∧SH w K [] w' C [obj W [V3 A a b,V3 B c d] 33,obj S [V3 none 0 0,V3 none 0 0] 33,obj G [V3 i k l,V3 I J O] 33,tail (V3 i k l) 9 1,tail (V3 I J O) 159 2]∧KLe an C∧rng64 T.1∧SliceAt tStr C i k l T.2.Stops∧SliceAt tGSyn C I J O T.2.Syns) aT ⟨aj,ak,am,none,0,0,an,u,aV.f2.f2.f3.f4,kr,d_0,aM,(SliceAt.nil _ _)⟩ ?_
  rintro T _ bW bX aW aX ⟨i,k,l,I,J,O,C,rfl,ap,U,bY,aA,aB⟩
  refine wc_seq (sr (mv u (fl ff33_1 u tf31 m0 ap u (lv (rv_len underlying31 u (ai.mono ((X.trans ao).trans U))) (lv (rv_lss u u) (nq (wcc aW u (fun aY aq=>?_) (fun aY aq=>?_))))))))
  ·refine wc_skip (qs (wc_block ?_))
   have Y:=ap.drew
   refine wj0 (fun w'=>Holds C w'∧HasObj W [V3 A a b,V3 B c d] w') (fun w'=>HasObj G [V3 i k l,V3 I J O] w') 20 [(1,18),(1,19),(1,20),(18,19),(18,20),(19,20)] mixed ⟨Y.hasK kr,Y.hasObj m0⟩ (fun _=>Y.hasObj (.tail _ (.tail _ (.head _)))) (jv 0 u (rv_fieldAddr ff33_1 u) (jf 1 u (fun _ h=>rh_loadm1 tf31 u u h) (jv 3 u (rv_fieldAddr ff33_1 u) (jh 4 u (fun _ h=>rh_loadm1 tf31 u u h.2) (jv 5 u (rv_move u) ?_)))))
   obtain⟨aZ,ba,bb⟩:=ob aq
   refine ji 6 u underlying31 tf159 (ai.mono ((X.trans ao).trans U)) ba fun bc bd bZ be bf=>?_
   obtain⟨bg,bh,bi,rfl,bj,ca⟩:=be
   have bk:AtK _ bc bd [V3 bg bh bi,sv aZ.To]:=bf
   refine jv 7 u (rv_fieldAddr ff159_0 u) (jh 8 u (fun _ h=>rh_load1 tf22 u (bk 0 _ u) h.1) (jv 10 u (rv_fieldAddr ff33_1 u) (jh 11 u (fun _ h=>rh_loadm1 tf31 u u h.2) (jv 12 u (rv_move u) ?_))))
   obtain⟨V,bl,bm⟩:=ob bb
   refine ji 13 u underlying31 tf159 (ai.mono ((X.trans ao).trans U)) bl fun bn bo cb bp bq=>?_
   obtain⟨br,bs,bu,rfl,cc,bv⟩:=bp
   have bz:AtK _ bn bo [V3 br bs bu,sv V.To]:=bq
   refine jv 14 u (rv_fieldAddr ff159_1 u) (jh 15 u (fun _ h=>rh_load1 tf9 u (bz 1 _ u) h.1) (j1 2 u (b0 tStr underlying22 tf9 Y fun cd ce cf f bA aa=>(jn ⟨aa.hasK f,aa.hasObj m1⟩ (fun _=>aa.hasObj (.tail _ (.tail _ (.tail _ (.head _))))) (j1 9 u ?_)))))
   obtain⟨bB,bC,bD⟩:=ob bm
   refine lp underlying22 tf9 bA (bj.mono f) bC aa fun ab ac ad cg ch D bE ae=>(jn ⟨ae.hasK (f.trans D),ae.hasObj m1⟩ (fun _=>ae.hasObj (.tail _ (.tail _ (.tail _ (.head _))))) (jv 16 u (rv_build (cs:=#[V3 ab ac ad,sv V.To]) sp159 tf159 u (by kernel_rfl)) (j1 17 u (lb tGSyn (.agg #[V3 ab ac ad,sv V.To]) [V3 ab ac ad,sv V.To] (GSyn.mk bB V.To) underlying31 tf159 ⟨ab,ac,ad,u,bE,bv⟩ ae fun cj ck cl R bF af=>(jn ⟨af.hasK ((f.trans D).trans R),af.hasObj m2⟩ (fun _=>af.hasObj (.tail _ (.tail _ (.tail _ (.tail _ (.head _)))))) (j1 18 u ?_))))))
   obtain⟨cm,bG,bH⟩:=ob bD
   refine lp underlying31 tf159 (aB.mono ((f.trans D).trans R)) bF bG af.f6 fun ar au aw cn bI ag bJ ah=>(jn ⟨ah.hasK (((f.trans D).trans R).trans ag),ah.hasObj m3⟩ (fun _=>ah.hasObj (.tail _ (.tail _ (.tail _ (.tail _ (.tail _ (.head _))))))) (jv 19 u (rv_fieldAddr ff33_1 u) (j1 20 u (ls [V3 i k l,V3 ar au aw] (V3 ar au aw) tf31 ah.f5 fun cp ax=>(jn ⟨ax.hasK (((f.trans D).trans R).trans ag),ax.hasObj m4⟩ (fun h=>nomatch h) (jd (qe_block (qe_seq (wc_region ?_)))))))))
   refine mv u (lv (rv_add u u) (av u (wl_nil ?_)))
   cases oi bH
   exact qd ⟨_,u,i,k,l,ar,au,aw,bI,u,ax.f1.f6.f2.f6.f6.s,((((U.trans f).trans D).trans R).trans ag),(w64_rng _),(SliceAt.mono (((f.trans D).trans R).trans ag) aA),bJ⟩
  refine wc_exit (qe_then_exit (qe_then_exit ?_))
  cases oi aq
  cases aX _ u
  refine qe_block_eq ?_
  cases oi aU
  exact qd ⟨i,k,l,I,J,O,C,u,ap.s,U,aA,aB⟩
 rintro _ cq ⟨m,o,q,s,x,y,H,rfl,aC,cr,bK,bL⟩
 refine qr (lv (rv_loadmS (ds:=[V3 m o q,V3 s x y]) tf33 u m1 aC u u) (lw [V3 m o q,V3 s x y] tf33 aC fun ct aD=>(nq (wc_ret ?_))))
 cases oi aS
 exact ez results173 tf33 aD m0 ⟨m,o,q,s,x,y,H,u,aD.s,bK,bL⟩

theorem ok_spec_l7CopyPosts {q0:List GPost}{r:(List GPost)}(hS:SH w K [] w K [])(I:SliceAt tGPost K A a b q0)(hm:M.spec_l7CopyPosts F q0=some r):
  Calls prog 91 #[V3 A a b] w fun e w'=>∃a_1 n_2 c_3 K',e= .returned (V3 a_1 n_2 c_3)∧SH w K [] w' K' [tail (V3 a_1 n_2 c_3) 134 2]∧SliceAt tGPost K' a_1 n_2 c_3 r:=by
 rw [M.spec_l7CopyPosts] at hm
 refine ci func91 u ntmps91 (sr (lv (r_n u) (nr (b0 tGPost underlying61 tf134 hS fun a5 w6 J O ac ad=>(av u (nsr (lv (r_0 u) (nq ?_))))))))
 obtain⟨ae,af,ag⟩:=ob hm
 refine wc_cutg (fun E' w'=>∃f i k l,E'=[(3,V3 f i k)]∧SH w K [] w' l [tail (V3 f i k) 134 2]∧KLe J l∧SliceAt tGPost l f i k ae) ?_ ?_
 ·refine wc_block ?_
  obtain⟨bc,ah,ai⟩:=ob af
  refine qw (fun (B:(List GPost)×Int) E' w'=>∃m o q d,E'=[(0,V3 A a b),(3,V3 m o q),(4,V6 B.2)]∧SH w K [] w' d [tail (V3 m o q) 134 2]∧KLe J d∧SliceAt tGPost d m o q B.1∧rng64 B.2) ah ⟨a5,0,0,J,u,ad,kr,ac,d_0⟩ ?_
  rintro B _ bd be aj ak ⟨m,o,q,d,rfl,S,s,T,bf⟩
  refine wc_seq (sr (mv u (mv u (lv (rv_len underlying61 u (I.mono (O.trans s))) (lv (rv_lss u u) (nq (wcc aj u (fun al R=>?_) (fun al R=>?_))))))))
  ·refine wc_skip (qs (wc_block ?_))
   have U:=S.drew
   refine wj0 (fun w'=>Holds d w') (fun w'=>True) 17 [] mixed (U.hasK kr) (fun _=>trivial) (jv 0 u (rv_move u) (jv 1 u (rv_move u) (jv 2 u (rv_move u) ?_)))
   obtain⟨x,am,an⟩:=ob R
   refine ji 3 u underlying61 tf134 (I.mono (O.trans s)) am fun ao ap bg aq ar=>?_
   obtain⟨au,aw,ax,rfl,ay,bh⟩:=aq
   have az:AtK _ ao ap [V6 x.Doc,V3 au aw ax]:=ar
   refine jv 4 u (rv_fieldAddr ff134_0 u) (jh 5 u (fun _ h=>rh_load1 tf3 u (az 0 _ u) h) (jv 7 u (rv_move u) (jv 8 u (rv_move u) ?_)))
   obtain⟨aA,aB,aC⟩:=ob an
   refine ji 9 u underlying61 tf134 (I.mono (O.trans s)) aB fun aD aE bi aF aG=>?_
   obtain⟨aH,aI,aJ,rfl,bj,aK⟩:=aF
   have aL:AtK _ aD aE [V6 aA.Doc,V3 aH aI aJ]:=aG
   refine jv 10 u (rv_fieldAddr ff134_1 u) (jh 11 u (fun _ h=>rh_load1 tf71 u (aL 1 _ u) h) (j1 6 u (b0 tInt underlying71 tf3 U fun bk bl bm c aM V=>(jn (V.hasK c) (fun _=>trivial) (j1 12 u ?_)))))
   obtain⟨aN,aO,aP⟩:=ob aC
   refine lp underlying71 tf3 aM (aK.mono c) aO V fun C D G bn bo y aQ W=>(jn (W.hasK (c.trans y)) (fun _=>trivial) (jv 13 u (rv_build (cs:=#[V6 x.Doc,V3 C D G]) sp134 tf134 u (by kernel_rfl)) (j1 14 u (lb tGPost (.agg #[V6 x.Doc,V3 C D G]) [V6 x.Doc,V3 C D G] (GPost.mk x.Doc aN) underlying61 tf134 ⟨C,D,G,u,ay,aQ⟩ W fun bp bq br H aR X=>(jn (X.hasK ((c.trans y).trans H)) (fun _=>trivial) (j1 15 u ?_))))))
   obtain⟨bs,aS,aT⟩:=ob aP
   refine lp underlying61 tf134 (T.mono ((c.trans y).trans H)) aR aS X.f2 fun aU aV aW bu aX Y aY aa=>(jn (aa.hasK (((c.trans y).trans H).trans Y)) (fun _=>trivial) (jv 16 u (rv_assign u) (jd (qe_block (qe_seq (wc_region (mv u (lv (rv_add u u) (av u ?_)))))))))
   refine wl_nil ?_
   cases oi aT
   exact qd ⟨_,u,aU,aV,aW,aX,u,aa.s,((((s.trans c).trans y).trans H).trans Y),aY,(w64_rng _)⟩
  refine wc_exit (qe_then_exit (qe_then_exit ?_))
  cases oi R
  cases ak _ u
  refine qe_block_eq ?_
  cases oi ai
  exact qd ⟨m,o,q,d,u,S,s,T⟩
 rintro _ bv ⟨f,i,k,l,rfl,aZ,bx,ba⟩
 refine qr (mv u (av u (nq (wc_ret ?_))))
 cases oi ag
 exact ey results91 ⟨f,i,k,l,u,aZ,ba⟩

theorem ok_spec_l18CopySeg {q0:GSeg}{r:GSeg}(hS:SH w K [] w K [])(bc:SliceAt tGDoc K A a b q0.Docs)(bd:SliceAt tGEntry K B c d q0.Entries)(hm:M.spec_l18CopySeg F q0=some r):
  Calls prog 174 #[.agg #[V3 A a b,V3 B c d]] w fun e w'=>∃a_1 n_2 c_3 a_5 n_6 c_7 K',e= .returned (.agg #[V3 a_1 n_2 c_3,V3 a_5 n_6 c_7])∧SH w K [] w' K' [tail (V3 a_1 n_2 c_3) 77 3,tail (V3 a_5 n_6 c_7) 116 3]∧SliceAt tGDoc K' a_1 n_2 c_3 r.Docs∧SliceAt tGEntry K' a_5 n_6 c_7 r.Entries:=by
 rw [M.spec_l18CopySeg] at hm
 refine ci func174 u ntmps174 (sr (bx u hS fun l cU bz=>?_))
 have bA:SH _ _ _ _ _ [obj l [V3 A a b,V3 B c d] 46]:=bz
 refine al tf46 bA fun k cV bB=>?_
 have bC:SH _ _ _ _ _ [obj k [V3 none 0 0,V3 none 0 0] 46,_]:=bB
 refine nr (lv (rv_build (cs:=#[V3 none 0 0,V3 none 0 0]) sp46 tf46 u (by kernel_rfl)) (al tf46 bC fun i cW bD=>?_))
 have bE:SH _ _ _ _ _ [obj i [V3 none 0 0,V3 none 0 0] 46,_,_]:=bD
 refine lw [V3 none 0 0,V3 none 0 0] tf46 bE fun cX bF=>(nsr (lv (r_0 u) (nq ?_)))
 obtain⟨be,bG,bH⟩:=ob hm
 refine wc_cutg (fun E' w'=>∃af ag ah ai aj ak m,E'=[(1,pt l),(2,pt k),(3,pt i)]∧SH w K [] w' m [obj l [V3 A a b,V3 B c d] 46,obj k [V3 none 0 0,V3 none 0 0] 46,obj i [V3 af ag ah,V3 ai aj ak] 46,tail (V3 af ag ah) 77 3,tail (V3 ai aj ak) 116 3]∧KLe K m∧SliceAt tGDoc m af ag ah be.Docs∧SliceAt tGEntry m ai aj ak be.Entries) ?_ ?_
 ·refine wc_block ?_
  obtain⟨cY,bI,bJ⟩:=ob bG
  have bK:=bF.nil 77 3
  have bL:=bK.nil 116 3
  refine qw (fun (am:Int×GSeg) E' w'=>∃V W X o q s H,E'=[(1,pt l),(2,pt k),(3,pt i),(4,V6 am.1)]∧SH w K [] w' H [obj l [V3 A a b,V3 B c d] 46,obj k [V3 none 0 0,V3 none 0 0] 46,obj i [V3 V W X,V3 o q s] 46,tail (V3 V W X) 77 3,tail (V3 o q s) 116 3]∧KLe K H∧rng64 am.1∧SliceAt tGDoc H V W X am.2.Docs∧SliceAt tGEntry H o q s am.2.Entries) bI ⟨none,0,0,none,0,0,K,u,bL.f1.f2.f3.f4,kr,d_0,(SliceAt.nil _ _),(SliceAt.nil _ _)⟩ ?_
  rintro am _ cZ da bM bN ⟨V,W,X,o,q,s,H,rfl,aH,ar,db,bf,bg⟩
  refine wc_seq (sr (mv u (fl ff46_0 u tf43 m0 aH u (lv (rv_len underlying43 u (bc.mono ar)) (lv (rv_lss u u) (nq (wcc bM u (fun bO aI=>?_) (fun bO aI=>?_))))))))
  ·refine wc_skip (qs (wc_block ?_))
   have an:=aH.drew
   refine wh1 (fun w'=>Holds H w'∧HasObj l [V3 A a b,V3 B c d] w') (fun w'=>HasObj i [V3 V W X,V3 o q s] w') 11 [(1,9),(1,10),(1,11),(9,10),(9,11),(10,11)] mixed ⟨an.hasK kr,an.hasObj m0⟩ (fun _=>an.hasObj (.tail _ (.tail _ (.head _)))) (gt (rv_fieldAddr ff46_0 u) (gf (fun _ h=>rh_loadm1 tf43 u u h) (gt (rv_fieldAddr ff46_0 u) (gh (fun _ h=>rh_loadm1 tf43 u u h.2) (gt (rv_move u) ?_)))))
   obtain⟨bh,bP,bQ⟩:=ob aI
   refine gi underlying43 tf77 (bc.mono ar) bP fun bR bS dc bT bU=>?_
   obtain⟨bi,bj,bk,bl,bm,bn,rfl,bV,bW,bX⟩:=bT
   have bY:AtK _ bR bS [V6 bh.Id,V3 bi bj bk,V3 bl bm bn]:=bU
   refine gh (fun _ h=>rh_loadS (cs:=[V6 bh.Id,V3 bi bj bk,V3 bl bm bn]) tf77 u bY u h.1) (gn ?_)
   obtain⟨aJ,bZ,ca⟩:=ob bQ
   refine lk co143 (ok_spec_l7CopyDoc F an.enter0 bV bW bX bZ) ?_
   rintro dd de ⟨aK,aL,aM,aN,aO,aP,df,rfl,x,cb,cc,cd⟩
   have au:=(an.c0 x).t7
   refine wl_nil (qh ⟨au.hasK x.le,au.hasObj m2⟩ (fun _=>au.hasObj (.tail _ (.tail _ (.tail _ (.tail _ (.head _)))))) (gn (lb tGDoc (.agg #[V6 aJ.Id,V3 aK aL aM,V3 aN aO aP]) [V6 aJ.Id,V3 aK aL aM,V3 aN aO aP] aJ underlying43 tf77 ⟨aK,aL,aM,aN,aO,aP,u,cb,cc,cd⟩ au fun dg dh di Y ce aw=>(wl_nil (qh ⟨aw.hasK (x.le.trans Y),aw.hasObj m3⟩ (fun _=>aw.hasObj (.tail _ (.tail _ (.tail _ (.tail _ (.tail _ (.head _))))))) (gn ?_))))))
   obtain⟨dj,cf,cg⟩:=ob ca
   refine lp underlying43 tf77 (bf.mono (x.le.trans Y)) ce cf aw.f6 fun aQ aR aS dk ch ax cj ay=>(wl_nil (qh ⟨ay.hasK ((x.le.trans Y).trans ax),ay.hasObj m4⟩ (fun _=>ay.hasObj (.tail _ (.tail _ (.tail _ (.tail _ (.tail _ (.tail _ (.head _)))))))) (gt (rv_fieldAddr ff46_0 u) (gn (ls [V3 aQ aR aS,V3 o q s] (V3 aQ aR aS) tf43 ay.f6 fun dl aT=>(wl_nil (qh ⟨aT.hasK ((x.le.trans Y).trans ax),aT.hasObj m5⟩ (fun h=>nomatch h) (gd' (qe_block (qe_seq (wc_region ?_)))))))))))
   refine mv u (lv (rv_add u u) (av u (wl_nil ?_)))
   cases oi cg
   exact qd ⟨_,u,aQ,aR,aS,o,q,s,ch,u,aT.f7.f2.f2.f7.f7.s,(((ar.trans x.le).trans Y).trans ax),(w64_rng _),cj,(bg.mono ((x.le.trans Y).trans ax))⟩
  refine wc_exit (qe_then_exit (qe_then_exit ?_))
  cases oi aI
  cases bN _ u
  refine qe_block_eq ?_
  cases oi bJ
  exact qd ⟨V,W,X,o,q,s,H,u,aH,ar,bf,bg⟩
 rintro _ dm ⟨af,ag,ah,ai,aj,ak,m,rfl,ck,bo,cl,cm⟩
 refine qs (sr (lv (r_0 u) (nq ?_)))
 obtain⟨bp,cn,cp⟩:=ob bH
 refine wc_cutg (fun E' w'=>∃I J O R S T aa,E'=[(2,pt k),(3,pt i)]∧SH w K [] w' aa [obj k [V3 none 0 0,V3 none 0 0] 46,obj i [V3 I J O,V3 R S T] 46,tail (V3 I J O) 77 3,tail (V3 R S T) 116 3]∧KLe m aa∧SliceAt tGDoc aa I J O bp.Docs∧SliceAt tGEntry aa R S T bp.Entries) ?_ ?_
 ·refine wc_block ?_
  obtain⟨dn,cq,cr⟩:=ob cn
  refine qw (fun (ao:Int×GSeg) E' w'=>∃y C D ab ac ad U,E'=[(1,pt l),(2,pt k),(3,pt i),(5,V6 ao.1)]∧SH w K [] w' U [obj l [V3 A a b,V3 B c d] 46,obj k [V3 none 0 0,V3 none 0 0] 46,obj i [V3 y C D,V3 ab ac ad] 46,tail (V3 y C D) 77 3,tail (V3 ab ac ad) 116 3]∧KLe m U∧rng64 ao.1∧SliceAt tGDoc U y C D ao.2.Docs∧SliceAt tGEntry U ab ac ad ao.2.Entries) cq ⟨af,ag,ah,ai,aj,ak,m,u,ck,kr,d_0,cl,cm⟩ ?_
  rintro ao _ dp dq ct cu ⟨y,C,D,ab,ac,ad,U,rfl,ap,az,dr,bq,br⟩
  refine wc_seq (sr (mv u (fl ff46_1 u tf44 m0 ap u (lv (rv_len underlying44 u (bd.mono (bo.trans az))) (lv (rv_lss u u) (nq (wcc ct u (fun cv aU=>?_) (fun cv aU=>?_))))))))
  ·refine wc_skip (qs (wc_block (sr (fl ff46_1 u tf44 m0 ap u (mv u ?_)))))
   obtain⟨f,cw,cx⟩:=ob aU
   refine li underlying44 tf116 (bd.mono (bo.trans az)) cw fun cy cz dt cA cB=>?_
   obtain⟨aV,aW,aX,rfl,cC,cD,cE⟩:=cA
   have cF:AtK _ cy cz [sv f.Field,sv f.Term,V3 aV aW aX]:=cB
   refine lv (rv_loadS tf116 u ap cF u) (al tf116 ap fun bs du cG=>?_)
   have cH:SH _ _ _ _ _ [obj bs [sv [],sv [],V3 none 0 0] 116,_,_,_,_,_]:=cG
   refine lw [sv f.Field,sv f.Term,V3 aV aW aX] tf116 cH fun dv cI=>(nq ?_)
   have aq:=cI.drew
   refine wh1 (fun w'=>Holds U w'∧HasObj bs [sv f.Field,sv f.Term,V3 aV aW aX] w') (fun w'=>HasObj i [V3 y C D,V3 ab ac ad] w') 13 [(1,11),(1,12),(1,13),(11,12),(11,13),(12,13)] mixed ⟨aq.hasK kr,aq.hasObj m0⟩ (fun _=>aq.hasObj (.tail _ (.tail _ (.tail _ (.head _))))) (gt (rv_fieldAddr ff46_1 u) (gf (fun _ h=>rh_loadm1 tf44 u u h) (gt (rv_fieldAddr ff116_0 u) (gh (fun _ h=>rh_loadm1 tf9 u u h.2) (gt (rv_fieldAddr ff116_1 u) (gh (fun _ h=>rh_loadm1 tf9 u u h.2) (gt (rv_fieldAddr ff116_2 u) (gh (fun _ h=>rh_loadm1 tf61 u u h.2) (gn ?_)))))))))
   obtain⟨cJ,cK,cL⟩:=ob cx
   refine lk co91 (ok_spec_l7CopyPosts F aq.enter0 cE cK) ?_
   rintro dw dx ⟨aA,aB,aC,dy,rfl,G,cM⟩
   have aD:=(aq.c0 G).t7
   refine wl_nil (qh ⟨aD.hasK G.le,aD.hasObj m1⟩ (fun _=>aD.hasObj (.tail _ (.tail _ (.tail _ (.tail _ (.head _)))))) (gt (rv_build (cs:=#[sv f.Field,sv f.Term,V3 aA aB aC]) sp116 tf116 u (by kernel_rfl)) (gn (lb tGEntry (.agg #[sv f.Field,sv f.Term,V3 aA aB aC]) [sv f.Field,sv f.Term,V3 aA aB aC] (GEntry.mk f.Field f.Term cJ) underlying44 tf116 ⟨aA,aB,aC,u,cC,cD,cM⟩ aD fun dz dA dB ae cN aE=>(wl_nil (qh ⟨aE.hasK (G.le.trans ae),aE.hasObj m2⟩ (fun _=>aE.hasObj (.tail _ (.tail _ (.tail _ (.tail _ (.tail _ (.head _))))))) (gn ?_)))))))
   obtain⟨dC,cO,cP⟩:=ob cL
   refine lp underlying44 tf116 (br.mono (G.le.trans ae)) cN cO aE.f7 fun aY aZ ba dD cQ aF cR aG=>(wl_nil (qh ⟨aG.hasK ((G.le.trans ae).trans aF),aG.hasObj m3⟩ (fun _=>aG.hasObj (.tail _ (.tail _ (.tail _ (.tail _ (.tail _ (.tail _ (.head _)))))))) (gt (rv_fieldAddr ff46_1 u) (gn (ls [V3 y C D,V3 aY aZ ba] (V3 aY aZ ba) tf44 aG.f6 fun dE bb=>(wl_nil (qh ⟨bb.hasK ((G.le.trans ae).trans aF),bb.hasObj m4⟩ (fun h=>nomatch h) (gd' (qe_block (qe_seq (wc_region ?_)))))))))))
   refine mv u (lv (rv_add u u) (av u (wl_nil ?_)))
   cases oi cP
   exact qd ⟨_,u,y,C,D,aY,aZ,ba,cQ,u,bb.f1.f7.f2.f7.f7.s,(((az.trans G.le).trans ae).trans aF),(w64_rng _),(bq.mono ((G.le.trans ae).trans aF)),cR⟩
  refine wc_exit (qe_then_exit (qe_then_exit ?_))
  cases oi aU
  cases cu _ u
  refine qe_block_eq ?_
  cases oi cr
  exact qd ⟨y,C,D,ab,ac,ad,U,u,ap.s,az,bq,br⟩
 rintro _ dF ⟨I,J,O,R,S,T,aa,rfl,bu,dG,cS,cT⟩
 refine qr (lv (rv_loadmS (ds:=[V3 I J O,V3 R S T]) tf46 u m1 bu u u) (lw [V3 I J O,V3 R S T] tf46 bu fun dH bv=>(nq (wc_ret ?_))))
 cases oi cp
 exact ez results174 tf46 bv m0 ⟨I,J,O,R,S,T,aa,u,bv.s,cS,cT⟩

theorem ok_spec_l18Copy {q0:GIndex}{r:GIndex}(hS:SH w K [] w K [])(bV:SliceAt tStr K A a b q0.Conf.Stops)(bW:SliceAt tGSyn K B c d q0.Conf.Syns)(bf:SliceAt tGLive K C f i q0.Segs)(hm:M.spec_l18Copy F q0=some r):
  Calls prog 110 #[.agg #[V3 A a b,V3 B c d,V3 C f i]] w fun e w'=>∃a_1 n_2 c_3 a_5 n_6 c_7 a_9 n_10 c_11 cs_12 K',e= .returned (.agg #[V3 a_1 n_2 c_3,V3 a_5 n_6 c_7,V3 a_9 n_10 c_11])∧SH w K [] w' K' [rowI (V3 a_9 n_10 c_11) cs_12 73 3]∧SliceAt tStr K' a_1 n_2 c_3 r.Conf.Stops∧SliceAt tGSyn K' a_5 n_6 c_7 r.Conf.Syns∧RowAt true tGLive K' cs_12 r.Segs∧n_10=r.Segs.length:=by
 rw [M.spec_l18Copy] at hm
 refine ci func110 u ntmps110 (sr (bx u hS fun Y dr bX=>?_))
 have bY:SH _ _ _ _ _ [obj Y [V3 A a b,V3 B c d,V3 C f i] 36]:=bX
 refine al tf36 bY fun S dt bZ=>?_
 have bg:SH _ _ _ _ _ [obj S [V3 none 0 0,V3 none 0 0,V3 none 0 0] 36,_]:=bZ
 refine nr (fa ff36_0 u (lv (rv_loadmS (ds:=[V3 A a b,V3 B c d]) tf33 u m1 bg u u) ?_))
 obtain⟨du,ca,cb⟩:=ob hm
 refine lk co173 (ok_spec_l18CopyConf F bg.enter0 bV bW ca) ?_
 rintro dv dw ⟨bh,bi,bj,bk,bl,bm,bn,rfl,aq,cc,cd⟩
 have ce:=(bg.c0 aq).t4
 refine lv (rv_build (cs:=#[V3 bh bi bj,V3 bk bl bm,V3 none 0 0]) sp36 tf36 u (by kernel_rfl)) (al tf36 ce fun O dx cf=>?_)
 have cg:SH _ _ _ _ _ [obj O [V3 none 0 0,V3 none 0 0,V3 none 0 0] 36,_,_,_,_]:=cf
 refine lw [V3 bh bi bj,V3 bk bl bm,V3 none 0 0] tf36 cg fun dy ch=>(nsr (lv (r_0 u) (nq ?_)))
 obtain⟨ar,cj,ck⟩:=ob cb
 refine wc_cutg (fun E' w'=>∃aa ab ac ad ae af ag T ah cs61 U,E'=[(2,pt S),(3,pt O)]∧SH w K [] w' U [obj S [V3 none 0 0,V3 none 0 0,V3 none 0 0] 36,obj O [V3 aa ab ac,V3 ad ae af,V3 ag T ah] 36,rowI (V3 ag T ah) cs61 73 3]∧KLe bn U∧SliceAt tStr U aa ab ac ar.Conf.Stops∧SliceAt tGSyn U ad ae af ar.Conf.Syns∧RowAt true tGLive U cs61 ar.Segs∧T=ar.Segs.length) ?_ ?_
 ·refine wc_block ?_
  obtain⟨dz,cl,cm⟩:=ob cj
  have cn:=SH.rowNil ch 73 3
  have cp:=cn.f1.f4.f5.sb (sk (sk (sk (sk (sd (sd sz))))))
  refine qw (fun (R:Int×GIndex) E' w'=>∃x y D G H I ak ai am cs84 J,E'=[(1,pt Y),(2,pt S),(3,pt O),(4,V6 R.1)]∧SH w K [] w' J [obj Y [V3 A a b,V3 B c d,V3 C f i] 36,obj S [V3 none 0 0,V3 none 0 0,V3 none 0 0] 36,obj O [V3 x y D,V3 G H I,V3 ak ai am] 36,rowI (V3 ak ai am) cs84 73 3]∧KLe bn J∧rng64 R.1∧SliceAt tStr J x y D R.2.Conf.Stops∧SliceAt tGSyn J G H I R.2.Conf.Syns∧RowAt true tGLive J cs84 R.2.Segs∧ai=R.2.Segs.length) cl ⟨bh,bi,bj,bk,bl,bm,none,0,0,[],bn,u,cp,kr,d_0,cc,cd,(RowAt.nil tGLive _),u⟩ ?_
  rintro R _ dA dB cq cr ⟨x,y,D,G,H,I,ak,ai,am,cs84,J,rfl,bo,an,dC,bp,bq,hrow85,hm86⟩
  refine wc_seq (sr (mv u (fl ff36_1 u tf34 m0 bo u (lv (rv_len underlying34 u (bf.mono (aq.le.trans an))) (lv (rv_lss u u) (nq (wcc cq u (fun ct br=>?_) (fun ct br=>?_))))))))
  ·refine wc_skip (qs (wc_block ?_))
   obtain⟨au,cu,cv⟩:=ob br
   refine wc_cutg (fun E' w'=>∃aw ax ay az aA aB aC ao aD cs115 V,E'=[(1,pt Y),(2,pt S),(3,pt O),(4,V6 R.1)]∧SH w K [] w' V [obj Y [V3 A a b,V3 B c d,V3 C f i] 36,obj S [V3 none 0 0,V3 none 0 0,V3 none 0 0] 36,obj O [V3 aw ax ay,V3 az aA aB,V3 aC ao aD] 36,rowI (V3 aC ao aD) cs115 73 3]∧KLe J V∧SliceAt tStr V aw ax ay au.Conf.Stops∧SliceAt tGSyn V az aA aB au.Conf.Syns∧RowAt true tGLive V cs115 au.Segs∧ao=au.Segs.length) ?_ ?_
   ·obtain⟨dD,cw,cx⟩:=ob cu
    obtain⟨dE,cy,cz⟩:=ob cx
    obtain⟨bE,bF,cA⟩:=ob cz
    obtain⟨bG,bH,cB⟩:=ob cA
    obtain⟨dF,bI,bJ⟩:=ob cB
    have aj:=bo.drew
    refine wj0 (fun w'=>Holds J w'∧HasObj Y [V3 A a b,V3 B c d,V3 C f i] w') (fun w'=>HasObj O [V3 x y D,V3 G H I,V3 ak ai am] w') 21 [(1,19),(1,20),(1,21),(19,20),(19,21),(20,21)] mixed ⟨aj.hasK kr,aj.hasObj m0⟩ (fun _=>aj.hasObj (.tail _ (.tail _ (.head _)))) (jv 0 u (rv_fieldAddr ff36_1 u) (jf 1 u (fun _ h=>rh_loadm1 tf34 u u h) (jv 2 u (rv_fieldAddr ff36_1 u) (jh 3 u (fun _ h=>rh_loadm1 tf34 u u h.2) (jv 4 u (rv_move u) (ji 5 u underlying34 tf73 (bf.mono (aq.le.trans an)) cw fun cC cD dG cE cF=>?_))))))
    obtain⟨bK,bL,bM,bN,bO,bP,cG,cH,cI,rfl,bQ,bR,dH⟩:=cE
    have cJ:AtK _ cC cD [V3 bK bL bM,V3 bN bO bP,V3 cG cH cI]:=cF
    refine jv 6 u (rv_fieldAddr ff73_0 u) (jh 7 u (fun _ h=>rh_loadS (cs:=[V3 bK bL bM,V3 bN bO bP]) tf46 u (AtK.part cJ 0 2) u h.1) (jv 10 u (rv_fieldAddr ff36_1 u) (jh 11 u (fun _ h=>rh_loadm1 tf34 u u h.2) (jv 12 u (rv_move u) (ji 13 u underlying34 tf73 (bf.mono (aq.le.trans an)) cy fun cK cL dI cM cN=>?_)))))
    obtain⟨cO,cP,cQ,cR,cS,cT,cU,cV,cW,rfl,dJ,dK,bS⟩:=cM
    have cX:AtK _ cK cL [V3 cO cP cQ,V3 cR cS cT,V3 cU cV cW]:=cN
    refine jv 14 u (rv_fieldAddr ff73_1 u) (jh 15 u (fun _ h=>rh_load1 tf71 u (cX 2 _ u) h.1) (j2 8 9 u u ?_ ?_))
    ·refine lk co174 (ok_spec_l18CopySeg F aj.enter0 bQ bR bF) ?_
     rintro dL dM ⟨aE,aF,aG,aH,aI,aJ,dN,rfl,l,cY,cZ⟩
     have aK:=(aj.c0 l).t6
     refine jn ⟨aK.hasK l.le,aK.hasObj m2⟩ (fun _=>aK.hasObj (.tail _ (.tail _ (.tail _ (.tail _ (.head _)))))) (j1 9 u (b0 tInt underlying71 tf3 aK fun dO dP dQ m da aL=>(jn ⟨aL.hasK (l.le.trans m),aL.hasObj m3⟩ (fun _=>aL.hasObj (.tail _ (.tail _ (.tail _ (.tail _ (.tail _ (.head _))))))) (j1 16 u (lp underlying71 tf3 da (bS.mono (l.le.trans m)) bH aL fun aM aN aO dR dS q db aP=>(jn ⟨aP.hasK ((l.le.trans m).trans q),aP.hasObj m3⟩ (fun _=>aP.hasObj (.tail _ (.tail _ (.tail _ (.tail _ (.tail _ (.head _))))))) (jv 17 u (rv_build (cs:=#[V3 aE aF aG,V3 aH aI aJ,V3 aM aN aO]) sp73 tf73 u (by kernel_rfl)) (j1 18 u (lb tGLive (.agg #[V3 aE aF aG,V3 aH aI aJ,V3 aM aN aO]) [V3 aE aF aG,V3 aH aI aJ,V3 aM aN aO] (GLive.mk bE bG) underlying34 tf73 ⟨aE,aF,aG,aH,aI,aJ,aM,aN,aO,u,(cY.mono (m.trans q)),(cZ.mono (m.trans q)),db⟩ aP fun dT dU dc W dd aQ=>?_)))))))))
     refine jn ⟨aQ.hasK (((l.le.trans m).trans q).trans W),aQ.hasObj m4⟩ (fun _=>aQ.hasObj (.tail _ (.tail _ (.tail _ (.tail _ (.tail _ (.tail _ (.head _)))))))) (j1 19 u (wl_appendR (t:=tGLive) wn u underlying34 tf73 u u u u (RowAt.mono (((l.le.trans m).trans q).trans W) hrow85) hm86 dd bI aQ.f7 fun bs bu bv cs289 dV hrow291 hm292 aR=>(jn ⟨aR.hasK (((l.le.trans m).trans q).trans W),aR.hasObj m5⟩ (fun _=>aR.hasObj (.tail _ (.tail _ (.tail _ (.tail _ (.tail _ (.tail _ (.tail _ (.head _))))))))) (jv 20 u (rv_fieldAddr ff36_1 u) (j1 21 u (ls [V3 x y D,V3 G H I,V3 bs bu bv] (V3 bs bu bv) tf34 aR.f7 fun dW bz=>(jn ⟨bz.hasK (((l.le.trans m).trans q).trans W),bz.hasObj m6⟩ (fun h=>nomatch h) (jd ?_))))))))
     cases oi bJ
     exact qd ⟨x,y,D,G,H,I,bs,bu,bv,cs289,dc,u,bz.f1.f1.f7.f7.s,(((l.le.trans m).trans q).trans W),(SliceAt.mono (((l.le.trans m).trans q).trans W) bp),(SliceAt.mono (((l.le.trans m).trans q).trans W) bq),hrow291,hm292⟩
    refine b0 tInt underlying71 tf3 aj fun dX dY dZ k de ap=>(jn ⟨ap.hasK k,ap.hasObj m1⟩ (fun _=>ap.hasObj (.tail _ (.tail _ (.tail _ (.head _))))) (j1 8 u (lk co174 (ok_spec_l18CopySeg F ap.enter0 (bQ.mono k) (bR.mono k) bF) ?_)))
    rintro ea eb ⟨aS,aT,aU,aV,aW,aX,ec,rfl,o,df,dg⟩
    have aY:=(ap.c0 o).t7
    refine jn ⟨aY.hasK (k.trans o.le),aY.hasObj m3⟩ (fun _=>aY.hasObj (.tail _ (.tail _ (.tail _ (.tail _ (.tail _ (.head _))))))) (j1 16 u (lp underlying71 tf3 (de.mono o.le) (bS.mono (k.trans o.le)) bH aY.f2 fun aZ ba bb ed ee s dh bc=>(jn ⟨bc.hasK ((k.trans o.le).trans s),bc.hasObj m3⟩ (fun _=>bc.hasObj (.tail _ (.tail _ (.tail _ (.tail _ (.tail _ (.head _))))))) (jv 17 u (rv_build (cs:=#[V3 aS aT aU,V3 aV aW aX,V3 aZ ba bb]) sp73 tf73 u (by kernel_rfl)) (j1 18 u (lb tGLive (.agg #[V3 aS aT aU,V3 aV aW aX,V3 aZ ba bb]) [V3 aS aT aU,V3 aV aW aX,V3 aZ ba bb] (GLive.mk bE bG) underlying34 tf73 ⟨aS,aT,aU,aV,aW,aX,aZ,ba,bb,u,(df.mono s),(dg.mono s),dh⟩ bc fun ef eg di X dj bd=>(jn ⟨bd.hasK (((k.trans o.le).trans s).trans X),bd.hasObj m4⟩ (fun _=>bd.hasObj (.tail _ (.tail _ (.tail _ (.tail _ (.tail _ (.tail _ (.head _)))))))) (j1 19 u (wl_appendR (t:=tGLive) wn u underlying34 tf73 u u u u (RowAt.mono (((k.trans o.le).trans s).trans X) hrow85) hm86 dj bI bd.f7 fun bA bB bC cs340 eh hrow342 hm343 be=>?_)))))))))
    refine jn ⟨be.hasK (((k.trans o.le).trans s).trans X),be.hasObj m5⟩ (fun _=>be.hasObj (.tail _ (.tail _ (.tail _ (.tail _ (.tail _ (.tail _ (.tail _ (.head _))))))))) (jv 20 u (rv_fieldAddr ff36_1 u) (j1 21 u (ls [V3 x y D,V3 G H I,V3 bA bB bC] (V3 bA bB bC) tf34 be.f7 fun ei bD=>(jn ⟨bD.hasK (((k.trans o.le).trans s).trans X),bD.hasObj m6⟩ (fun h=>nomatch h) (jd ?_)))))
    cases oi bJ
    exact qd ⟨x,y,D,G,H,I,bA,bB,bC,cs340,di,u,bD.f1.f1.f7.f7.s,(((k.trans o.le).trans s).trans X),(SliceAt.mono (((k.trans o.le).trans s).trans X) bp),(SliceAt.mono (((k.trans o.le).trans s).trans X) bq),hrow342,hm343⟩
   rintro _ ej ⟨aw,ax,ay,az,aA,aB,aC,ao,aD,cs115,V,rfl,dk,dl,dm,dn,hrow116,hm117⟩
   refine qe_block (qe_seq (wc_region (mv u (lv (rv_add u u) (av u (wl_nil ?_))))))
   cases oi cv
   exact qd ⟨_,u,aw,ax,ay,az,aA,aB,aC,ao,aD,cs115,V,u,dk,(an.trans dl),(w64_rng _),dm,dn,hrow116,hm117⟩
  refine wc_exit (qe_then_exit (qe_then_exit ?_))
  cases oi br
  cases cr _ u
  refine qe_block_eq ?_
  cases oi cm
  exact qd ⟨x,y,D,G,H,I,ak,ai,am,cs84,J,u,bo.s,an,bp,bq,hrow85,hm86⟩
 rintro _ ek ⟨aa,ab,ac,ad,ae,af,ag,T,ah,cs61,U,rfl,bT,el,dp,dq,hrow62,hm63⟩
 refine qr (lv (rv_loadmS (ds:=[V3 aa ab ac,V3 ad ae af,V3 ag T ah]) tf36 u m1 bT u u) (lw [V3 aa ab ac,V3 ad ae af,V3 ag T ah] tf36 bT fun em bU=>(nq (wc_ret ?_))))
 cases oi ck
 exact ez results110 tf36 bU m0 ⟨aa,ab,ac,ad,ae,af,ag,T,ah,cs61,U,u,bU.s,dp,dq,hrow62,hm63⟩

set_option maxHeartbeats 2000000 in
theorem own_spec_l18Copy (F:Nat){w:World}{K:KMap}{a1:Option Addr}{n2 c3:Nat}{a5:Option Addr}{n6 c7:Nat}{a9:Option Addr}{n10 c11:Nat}{p0_x:GIndex}{r:GIndex}(hS:SH w K [] w K [])(hs4:SliceAt tStr K a1 n2 c3 p0_x.Conf.Stops)(hs8:SliceAt tGSyn K a5 n6 c7 p0_x.Conf.Syns)(hs12:SliceAt tGLive K a9 n10 c11 p0_x.Segs)(hm:M.spec_l18Copy F p0_x=some r):
  Calls Tryz.prog 110 #[.agg #[.slice a1 n2 c3,.slice a5 n6 c7,.slice a9 n10 c11]] w fun e w'=>∃(a_1:Option Addr) (n_2 c_3:Nat) (a_5:Option Addr) (n_6 c_7:Nat) (a_9:Option Addr) (n_10 c_11:Nat) (cs_12:List Value) (K':KMap),e= .returned (.agg #[.slice a_1 n_2 c_3,.slice a_5 n_6 c_7,.slice a_9 n_10 c_11])∧SH w K [] w' K' [rowI (.slice a_9 n_10 c_11) cs_12 73 3,pack (tailsOf 116 3 cs_12)]∧SliceAt tStr K' a_1 n_2 c_3 r.Conf.Stops∧SliceAt tGSyn K' a_5 n_6 c_7 r.Conf.Syns∧RowAt true tGLive K' cs_12 r.Segs∧n_10=r.Segs.length:=by
 rw [M.spec_l18Copy] at hm
 refine calls_in Tryz.func110 rfl Tryz.ntmps110 rfl ?_
 refine sr ?_
 refine wl_box wn rfl rfl hS ?_
 intro g13 w14 hS15
 have hS16:SH _ _ _ _ _ [obj g13 [.slice a1 n2 c3,.slice a5 n6 c7,.slice a9 n10 c11] 36]:=hS15
 refine wl_alloc wn rfl tf36 hS16 ?_
 intro g17 w18 hS19
 have hS20:SH _ _ _ _ _ [obj g17 [.slice none 0 0,.slice none 0 0,.slice none 0 0] 36,_]:=hS19
 refine nr ?_
 refine wl_val wn rfl (rv_fieldAddr ff36_0 rfl) ?_
 refine wl_val wn rfl (rv_loadmS (ds:=[.slice a1 n2 c3,.slice a5 n6 c7]) tf33 rfl (.tail _ (.head _)) hS20 rfl rfl) ?_
 obtain⟨r21,hx22,h23⟩:=ob hm
 refine wl_call wn rfl (rt_call (vs:=[.agg #[.slice a1 n2 c3,.slice a5 n6 c7]]) co173 rfl) ((ok_spec_l18CopyConf F) hS20.enter0 hs4 hs8 hx22) ?_
 rintro e35 w25 ⟨a27,n28,c29,a31,n32,c33,K24,rfl,hS26,hs30,hs34⟩
 refine⟨_,rfl,?_⟩
 have hS36:SH _ _ _ _ _ [_,_,_,_]:=SH.call0 hS20 hS26
 refine wl_val wn rfl (rv_build (cs:=#[.slice a27 n28 c29,.slice a31 n32 c33,.slice none 0 0]) sp36 tf36 rfl (by kernel_rfl)) ?_
 refine wl_alloc wn rfl tf36 hS36 ?_
 intro g37 w38 hS39
 have hS40:SH _ _ _ _ _ [obj g37 [.slice none 0 0,.slice none 0 0,.slice none 0 0] 36,_,_,_,_]:=hS39
 refine wl_store (cs':=[.slice a27 n28 c29,.slice a31 n32 c33,.slice none 0 0]) (v:=.agg #[.slice a27 n28 c29,.slice a31 n32 c33,.slice none 0 0]) wn tf36 rfl rfl rfl (by simp [Value.cells,Value.oneCell']) hS40 rfl rfl ?_
 intro w41 hS42
 refine nsr ?_
 refine wl_val wn rfl (rv_assign (v:=.int .i64 0) rfl) ?_
 refine nq ?_
 obtain⟨o43,h44,h45⟩:=ob h23
 refine wc_cutg (fun E' w'=>∃(a50:Option Addr) (n51 c52:Nat) (a54:Option Addr) (n55 c56:Nat) (a58:Option Addr) (n59 c60:Nat) (cs61:List Value) (K46:KMap),E'=[(2,.pointer (some ⟨g17,0,none⟩)),(3,.pointer (some ⟨g37,0,none⟩))]∧SH w K [] w' K46 [obj g17 [.slice none 0 0,.slice none 0 0,.slice none 0 0] 36,obj g37 [.slice a50 n51 c52,.slice a54 n55 c56,.slice a58 n59 c60] 36,rowI (.slice a58 n59 c60) cs61 73 3,pack (tailsOf 116 3 cs61)]∧KLe K24 K46∧SliceAt tStr K46 a50 n51 c52 o43.Conf.Stops∧SliceAt tGSyn K46 a54 n55 c56 o43.Conf.Syns∧RowAt true tGLive K46 cs61 o43.Segs∧n59=o43.Segs.length) ?_ ?_
 ·refine wc_block ?_
  obtain⟨r65,h66,h67⟩:=ob h44
  have hS87:=SH.rowNil hS42 73 3
  have hS88:SH _ _ _ _ _ [_,_,_,_,_,_]:=SH.front (p:=[_]) hS87
  have hS89:SH _ _ _ _ _ [_,_,_,_,_,_]:=SH.front (p:=[_,_,_,_]) hS88
  have hS90:SH _ _ _ _ _ [_,_,_,_,_,_]:=SH.front (p:=[_,_,_,_,_]) hS89
  have hS91q:SH _ _ _ _ _ [_,_,_,_]:=SH.sublist hS90 (.cons_cons _ (.cons_cons _ (.cons_cons _ (.cons_cons _ (.cons _ (.cons _ .slnil))))))
  have hS91:SH _ _ _ _ _ [_,_,_,_,_]:=SH.toBack (p:=[_,_,_,_]) (SH.packNil hS91q 116 3)
  refine wc_while' (fun (s64:Int×GIndex) E' w'=>∃(a73:Option Addr) (n74 c75:Nat) (a77:Option Addr) (n78 c79:Nat) (a81:Option Addr) (n82 c83:Nat) (cs84:List Value) (K68:KMap),E'=[(1,.pointer (some ⟨g13,0,none⟩)),(2,.pointer (some ⟨g17,0,none⟩)),(3,.pointer (some ⟨g37,0,none⟩)),(4,.int .i64 s64.1)]∧SH w K [] w' K68 [obj g13 [.slice a1 n2 c3,.slice a5 n6 c7,.slice a9 n10 c11] 36,obj g17 [.slice none 0 0,.slice none 0 0,.slice none 0 0] 36,obj g37 [.slice a73 n74 c75,.slice a77 n78 c79,.slice a81 n82 c83] 36,rowI (.slice a81 n82 c83) cs84 73 3,pack (tailsOf 116 3 cs84)]∧KLe K24 K68∧rng64 s64.1∧SliceAt tStr K68 a73 n74 c75 s64.2.Conf.Stops∧SliceAt tGSyn K68 a77 n78 c79 s64.2.Conf.Syns∧RowAt true tGLive K68 cs84 s64.2.Segs∧n82=s64.2.Segs.length) h66 ⟨a27,n28,c29,a31,n32,c33,none,0,0,[],K24,rfl,hS91,(KLe.refl _),d_0,hs30,hs34,(RowAt.nil tGLive _),rfl⟩ ⟨rfl,rfl,rfl,rfl,trivial⟩ ?_
  rintro s64 _ w70 r92 h93 hx94 ⟨a73,n74,c75,a77,n78,c79,a81,n82,c83,cs84,K68,rfl,hS71,hl69,hr72,hs76,hs80,hrow85,hm86⟩
  refine wc_seq ?_
  refine sr ?_
  refine vm rfl rfl ?_
  refine wl_val wn rfl (rv_fieldAddr ff36_1 rfl) ?_
  refine wl_val wn rfl (rv_loadm1 tf34 rfl (.head _) hS71 rfl) ?_
  refine wl_val wn rfl (rv_len (t:=tGLive) Tryz.underlying34 rfl (SliceAt.mono (hS26.le.trans hl69) hs12)) ?_
  refine wl_val wn rfl (rv_lss rfl rfl) ?_
  refine nq ?_
  refine wc_cond rfl (fun hb95=>?_) (fun hb95=>?_)
  ·have h96:=cond_t hb95 h93
   refine wc_skip ?_
   refine qs ?_
   refine wc_block ?_
   obtain⟨o97,h98,h99⟩:=ob h96
   refine wc_cutg (fun E' w'=>∃(a104:Option Addr) (n105 c106:Nat) (a108:Option Addr) (n109 c110:Nat) (a112:Option Addr) (n113 c114:Nat) (cs115:List Value) (K100:KMap),E'=[(1,.pointer (some ⟨g13,0,none⟩)),(2,.pointer (some ⟨g17,0,none⟩)),(3,.pointer (some ⟨g37,0,none⟩)),(4,.int .i64 s64.1)]∧SH w K [] w' K100 [obj g13 [.slice a1 n2 c3,.slice a5 n6 c7,.slice a9 n10 c11] 36,obj g17 [.slice none 0 0,.slice none 0 0,.slice none 0 0] 36,obj g37 [.slice a104 n105 c106,.slice a108 n109 c110,.slice a112 n113 c114] 36,rowI (.slice a112 n113 c114) cs115 73 3,pack (tailsOf 116 3 cs115)]∧KLe K68 K100∧SliceAt tStr K100 a104 n105 c106 o97.Conf.Stops∧SliceAt tGSyn K100 a108 n109 c110 o97.Conf.Syns∧RowAt true tGLive K100 cs115 o97.Segs∧n113=o97.Segs.length) ?_ ?_
   ·obtain⟨x120,hx121,h122⟩:=ob h98
    obtain⟨x141,hx142,h143⟩:=ob h122
    obtain⟨r162,hx163,h164⟩:=ob h143
    obtain⟨x184,hx185,h186⟩:=ob h164
    obtain⟨x202,hx203,h204⟩:=ob h186
    refine wc_held (fun w'=>Holds K68 w'∧HasObj g13 [.slice a1 n2 c3,.slice a5 n6 c7,.slice a9 n10 c11] w') (fun w'=>HasObj g37 [.slice a73 n74 c75,.slice a77 n78 c79,.slice a81 n82 c83] w') 21 [(1,19),(1,20),(1,21),(19,20),(19,21),(20,21)] mixed ?_
    have hS119:=SH.drew hS71
    refine wg_val (i:=0) (listed':=L_ 22 0) (fun _=>True) rfl (by kernel_rfl) (pk_then (pk_block (pk_then (pk_then (pk_block (pk_then (pk_then pk_body))))))) (by kernel_rfl) rfl (by kernel_rfl) (by kernel_rfl) rfl (.inl fun _ _=>trivial) ⟨⟨hS119.hasK (KLe.refl _),hS119.hasObj (.head _)⟩,(fun _=>hS119.hasObj (.tail _ (.tail _ (.head _)))),by decide⟩ wn rfl (fun _ _=>(rv_fieldAddr ff36_1 rfl)) ?_
    refine wg_val (i:=1) (listed':=L_ 22 1) (HasObj g37 [.slice a73 n74 c75,.slice a77 n78 c79,.slice a81 n82 c83]) rfl (by kernel_rfl) (pk_then (pk_block (pk_then (pk_then (pk_block (pk_then (pk_then pk_body))))))) (by kernel_rfl) rfl (by kernel_rfl) (by kernel_rfl) rfl (.inr ⟨rfl,fun _ _ h=>h⟩) ⟨⟨hS119.hasK (KLe.refl _),hS119.hasObj (.head _)⟩,(fun _=>hS119.hasObj (.tail _ (.tail _ (.head _)))),by decide⟩ wn rfl (fun _ h=>rh_loadm1 tf34 rfl rfl h) ?_
    refine wg_val (i:=2) (listed':=L_ 22 2) (fun _=>True) rfl (by kernel_rfl) (pk_then (pk_block (pk_then (pk_then (pk_block (pk_then (pk_then pk_body))))))) (by kernel_rfl) rfl (by kernel_rfl) (by kernel_rfl) rfl (.inl fun _ _=>trivial) ⟨⟨hS119.hasK (KLe.refl _),hS119.hasObj (.head _)⟩,(fun _=>hS119.hasObj (.tail _ (.tail _ (.head _)))),by decide⟩ wn rfl (fun _ _=>(rv_fieldAddr ff36_1 rfl)) ?_
    refine wg_val (i:=3) (listed':=L_ 22 3) (HasObj g13 [.slice a1 n2 c3,.slice a5 n6 c7,.slice a9 n10 c11]) rfl (by kernel_rfl) (pk_then (pk_block (pk_then (pk_then (pk_block (pk_then (pk_then pk_body))))))) (by kernel_rfl) rfl (by kernel_rfl) (by kernel_rfl) rfl (.inl fun _ h=>h.2) ⟨⟨hS119.hasK (KLe.refl _),hS119.hasObj (.head _)⟩,(fun _=>hS119.hasObj (.tail _ (.tail _ (.head _)))),by decide⟩ wn rfl (fun _ h=>rh_loadm1 tf34 rfl rfl h) ?_
    refine wg_val (i:=4) (listed':=L_ 22 4) (fun _=>True) rfl (by kernel_rfl) (pk_then (pk_block (pk_then (pk_then (pk_block (pk_then (pk_then pk_body))))))) (by kernel_rfl) rfl (by kernel_rfl) (by kernel_rfl) rfl (.inl fun _ _=>trivial) ⟨⟨hS119.hasK (KLe.refl _),hS119.hasObj (.head _)⟩,(fun _=>hS119.hasObj (.tail _ (.tail _ (.head _)))),by decide⟩ wn rfl (fun _ _=>(rv_move rfl)) ?_
    refine wg_indexAddr (t:=tGLive) (j:=5) (listed':=L_ 22 5) rfl (by kernel_rfl) (pk_then (pk_block (pk_then (pk_then (pk_block (pk_then (pk_then pk_body))))))) (by kernel_rfl) rfl (by kernel_rfl) (by kernel_rfl) rfl ⟨⟨hS119.hasK (KLe.refl _),hS119.hasObj (.head _)⟩,(fun _=>hS119.hasObj (.tail _ (.tail _ (.head _)))),by decide⟩ wn rfl Tryz.underlying34 tf73 rfl rfl (SliceAt.mono (hS26.le.trans hl69) hs12) hx121 ?_
    intro b216 o217 u218 hu219 ha220
    obtain⟨a221,n222,c223,a225,n226,c227,a229,n230,c231,rfl,hs224,hs228,hs232⟩:=hu219
    have ha233:AtK _ b216 o217 [.slice a221 n222 c223,.slice a225 n226 c227,.slice a229 n230 c231]:=ha220
    refine wg_val (i:=6) (listed':=L_ 22 6) (fun _=>True) rfl (by kernel_rfl) (pk_then (pk_block (pk_then (pk_then (pk_block (pk_then (pk_then pk_body))))))) (by kernel_rfl) rfl (by kernel_rfl) (by kernel_rfl) rfl (.inl fun _ _=>trivial) ⟨⟨hS119.hasK (KLe.refl _),hS119.hasObj (.head _)⟩,(fun _=>hS119.hasObj (.tail _ (.tail _ (.head _)))),by decide⟩ wn rfl (fun _ _=>(rv_fieldAddr ff73_0 rfl)) ?_
    refine wg_val (i:=7) (listed':=L_ 22 7) (Holds K68) rfl (by kernel_rfl) (pk_then (pk_block (pk_then (pk_then (pk_block (pk_then (pk_then pk_body))))))) (by kernel_rfl) rfl (by kernel_rfl) (by kernel_rfl) rfl (.inl fun _ h=>h.1) ⟨⟨hS119.hasK (KLe.refl _),hS119.hasObj (.head _)⟩,(fun _=>hS119.hasObj (.tail _ (.tail _ (.head _)))),by decide⟩ wn rfl (fun _ h=>rh_loadS (cs:=[.slice a221 n222 c223,.slice a225 n226 c227]) tf46 rfl (AtK.part ha233 0 2) rfl h) ?_
    refine wg_val (i:=10) (listed':=#[true,true,true,true,true,true,true,true,false,false,true,false,false,false,false,false,false,false,false,false,false,false]) (fun _=>True) rfl (by kernel_rfl) (pk_then (pk_block (pk_then (pk_then (pk_block (pk_then (pk_then pk_body))))))) (by kernel_rfl) rfl (by kernel_rfl) (by kernel_rfl) rfl (.inl fun _ _=>trivial) ⟨⟨hS119.hasK (KLe.refl _),hS119.hasObj (.head _)⟩,(fun _=>hS119.hasObj (.tail _ (.tail _ (.head _)))),by decide⟩ wn rfl (fun _ _=>(rv_fieldAddr ff36_1 rfl)) ?_
    refine wg_val (i:=11) (listed':=#[true,true,true,true,true,true,true,true,false,false,true,true,false,false,false,false,false,false,false,false,false,false]) (HasObj g13 [.slice a1 n2 c3,.slice a5 n6 c7,.slice a9 n10 c11]) rfl (by kernel_rfl) (pk_then (pk_block (pk_then (pk_then (pk_block (pk_then (pk_then pk_body))))))) (by kernel_rfl) rfl (by kernel_rfl) (by kernel_rfl) rfl (.inl fun _ h=>h.2) ⟨⟨hS119.hasK (KLe.refl _),hS119.hasObj (.head _)⟩,(fun _=>hS119.hasObj (.tail _ (.tail _ (.head _)))),by decide⟩ wn rfl (fun _ h=>rh_loadm1 tf34 rfl rfl h) ?_
    refine wg_val (i:=12) (listed':=#[true,true,true,true,true,true,true,true,false,false,true,true,true,false,false,false,false,false,false,false,false,false]) (fun _=>True) rfl (by kernel_rfl) (pk_then (pk_block (pk_then (pk_then (pk_block (pk_then (pk_then pk_body))))))) (by kernel_rfl) rfl (by kernel_rfl) (by kernel_rfl) rfl (.inl fun _ _=>trivial) ⟨⟨hS119.hasK (KLe.refl _),hS119.hasObj (.head _)⟩,(fun _=>hS119.hasObj (.tail _ (.tail _ (.head _)))),by decide⟩ wn rfl (fun _ _=>(rv_move rfl)) ?_
    refine wg_indexAddr (t:=tGLive) (j:=13) (listed':=#[true,true,true,true,true,true,true,true,false,false,true,true,true,true,false,false,false,false,false,false,false,false]) rfl (by kernel_rfl) (pk_then (pk_block (pk_then (pk_then (pk_block (pk_then (pk_then pk_body))))))) (by kernel_rfl) rfl (by kernel_rfl) (by kernel_rfl) rfl ⟨⟨hS119.hasK (KLe.refl _),hS119.hasObj (.head _)⟩,(fun _=>hS119.hasObj (.tail _ (.tail _ (.head _)))),by decide⟩ wn rfl Tryz.underlying34 tf73 rfl rfl (SliceAt.mono (hS26.le.trans hl69) hs12) hx142 ?_
    intro b234 o235 u236 hu237 ha238
    obtain⟨a239,n240,c241,a243,n244,c245,a247,n248,c249,rfl,hs242,hs246,hs250⟩:=hu237
    have ha251:AtK _ b234 o235 [.slice a239 n240 c241,.slice a243 n244 c245,.slice a247 n248 c249]:=ha238
    refine wg_val (i:=14) (listed':=#[true,true,true,true,true,true,true,true,false,false,true,true,true,true,true,false,false,false,false,false,false,false]) (fun _=>True) rfl (by kernel_rfl) (pk_then (pk_block (pk_then (pk_then (pk_block (pk_then (pk_then pk_body))))))) (by kernel_rfl) rfl (by kernel_rfl) (by kernel_rfl) rfl (.inl fun _ _=>trivial) ⟨⟨hS119.hasK (KLe.refl _),hS119.hasObj (.head _)⟩,(fun _=>hS119.hasObj (.tail _ (.tail _ (.head _)))),by decide⟩ wn rfl (fun _ _=>(rv_fieldAddr ff73_1 rfl)) ?_
    refine wg_val (i:=15) (listed':=#[true,true,true,true,true,true,true,true,false,false,true,true,true,true,true,true,false,false,false,false,false,false]) (Holds K68) rfl (by kernel_rfl) (pk_then (pk_block (pk_then (pk_then (pk_block (pk_then (pk_then pk_body))))))) (by kernel_rfl) rfl (by kernel_rfl) (by kernel_rfl) rfl (.inl fun _ h=>h.1) ⟨⟨hS119.hasK (KLe.refl _),hS119.hasObj (.head _)⟩,(fun _=>hS119.hasObj (.tail _ (.tail _ (.head _)))),by decide⟩ wn rfl (fun _ h=>rh_load1 tf71 rfl (ha251 2 _ rfl) h) ?_
    refine wg_many (l:=[8,9]) (by kernel_rfl) rfl ⟨⟨_,rfl,?_⟩,⟨_,rfl,?_⟩,trivial⟩
    ·refine wl_call wn rfl (rt_call (vs:=[.agg #[.slice a221 n222 c223,.slice a225 n226 c227]]) co174 rfl) ((ok_spec_l18CopySeg F) hS119.enter0 hs224 hs228 hx163) ?_
     rintro e263 w253 ⟨a255,n256,c257,a259,n260,c261,K252,rfl,hS254,hs258,hs262⟩
     refine⟨_,rfl,?_⟩
     have hS264:SH _ _ _ _ _ [_,_,_,_,_,_,_]:=SH.call0 hS119 hS254
     refine wl_nil (qe_held (listed':=#[true,true,true,true,true,true,true,true,true,false,true,true,true,true,true,true,false,false,false,false,false,false]) rfl ⟨⟨hS264.hasK hS254.le,hS264.hasObj (.tail _ (.tail _ (.head _)))⟩,(fun _=>hS264.hasObj (.tail _ (.tail _ (.tail _ (.tail _ (.head _)))))),by decide⟩ ?_)
     refine wg_one (i:=9) (by kernel_rfl) rfl ?_
     refine wl_buildSlice0 tInt wn rfl Tryz.underlying71 tf3 hS264 ?_
     intro a265 w266 K267 hl268 hs269 hS270
     refine wl_nil (qe_held (listed':=L_ 22 15) rfl ⟨⟨hS270.hasK (hS254.le.trans hl268),hS270.hasObj (.tail _ (.tail _ (.tail _ (.head _))))⟩,(fun _=>hS270.hasObj (.tail _ (.tail _ (.tail _ (.tail _ (.tail _ (.head _))))))),by decide⟩ ?_)
     refine wg_one (i:=16) (by kernel_rfl) rfl ?_
     refine wl_append (t:=tInt) wn rfl Tryz.underlying71 tf3 rfl rfl rfl rfl rfl hs269 (SliceAt.mono (hS254.le.trans hl268) hs250) hx185 hS270 ?_
     intro a271 n272 c273 w274 K275 hl276 hs277 hS278
     refine wl_nil (qe_held (listed':=L_ 22 16) rfl ⟨⟨hS278.hasK ((hS254.le.trans hl268).trans hl276),hS278.hasObj (.tail _ (.tail _ (.tail _ (.head _))))⟩,(fun _=>hS278.hasObj (.tail _ (.tail _ (.tail _ (.tail _ (.tail _ (.head _))))))),by decide⟩ ?_)
     refine wg_val (i:=17) (listed':=L_ 22 17) (fun _=>True) rfl (by kernel_rfl) (pk_then (pk_block (pk_then (pk_then (pk_block (pk_then (pk_then pk_body))))))) (by kernel_rfl) rfl (by kernel_rfl) (by kernel_rfl) rfl (.inl fun _ _=>trivial) ⟨⟨hS278.hasK ((hS254.le.trans hl268).trans hl276),hS278.hasObj (.tail _ (.tail _ (.tail _ (.head _))))⟩,(fun _=>hS278.hasObj (.tail _ (.tail _ (.tail _ (.tail _ (.tail _ (.head _))))))),by decide⟩ wn rfl (fun _ _=>(rv_build (cs:=#[.slice a255 n256 c257,.slice a259 n260 c261,.slice a271 n272 c273]) sp73 tf73 rfl (by kernel_rfl))) ?_
     refine wg_one (i:=18) (by kernel_rfl) rfl ?_
     refine wl_buildSlice (t:=tGLive.wc) (n:=1) (pv:=[(0,.agg #[.slice a255 n256 c257,.slice a259 n260 c261,.slice a271 n272 c273])]) (cs:=[.slice a255 n256 c257,.slice a259 n260 c261,.slice a271 n272 c273]) (xs:=[((GLive.mk r162 x184),[.slice a255 n256 c257,.slice a259 n260 c261,.slice a271 n272 c273])]) wn rfl Tryz.underlying34 tf73 rfl rfl rfl (by kernel_rfl) rfl rfl (lit_cons (t:=tGLive.wc) (u:=.agg #[.slice a255 n256 c257,.slice a259 n260 c261,.slice a271 n272 c273]) (z:=((GLive.mk r162 x184),[.slice a255 n256 c257,.slice a259 n260 c261,.slice a271 n272 c273])) ⟨⟨a255,n256,c257,a259,n260,c261,a271,n272,c273,rfl,(SliceAt.mono (hl268.trans hl276) hs258),(SliceAt.mono (hl268.trans hl276) hs262),hs277⟩,rfl⟩ lit_nil) hS278 ?_
     intro a279 w280 K281 hl282 hs283 hS284
     refine wl_nil (qe_held (listed':=L_ 22 18) rfl ⟨⟨hS284.hasK (((hS254.le.trans hl268).trans hl276).trans hl282),hS284.hasObj (.tail _ (.tail _ (.tail _ (.tail _ (.head _)))))⟩,(fun _=>hS284.hasObj (.tail _ (.tail _ (.tail _ (.tail _ (.tail _ (.tail _ (.head _)))))))),by decide⟩ ?_)
     refine wg_one (i:=19) (by kernel_rfl) rfl ?_
     have hS285:SH _ _ _ _ _ [_,_,_,_,_,_,_,_,_]:=SH.front (p:=[_,_,_,_,_,_,_]) hS284
     refine wl_appendT (t:=tGLive) wn rfl Tryz.underlying34 tf73 rfl rfl rfl rfl (RowAt.mono (((hS254.le.trans hl268).trans hl276).trans hl282) hrow85) hm86 hs283 hx203 hS285 ?_
     intro a286 n287 c288 w290 hrow291 hm292 hS293
     refine wl_nil (qe_held (listed':=L_ 22 19) rfl ⟨⟨hS293.hasK (((hS254.le.trans hl268).trans hl276).trans hl282),hS293.hasObj (.tail _ (.tail _ (.tail _ (.tail _ (.tail _ (.head _))))))⟩,(fun _=>hS293.hasObj (.tail _ (.tail _ (.tail _ (.tail _ (.tail _ (.tail _ (.tail _ (.head _))))))))),by decide⟩ ?_)
     refine wg_val (i:=20) (listed':=L_ 22 20) (fun _=>True) rfl (by kernel_rfl) (pk_then (pk_block (pk_then (pk_then (pk_block (pk_then (pk_then pk_body))))))) (by kernel_rfl) rfl (by kernel_rfl) (by kernel_rfl) rfl (.inl fun _ _=>trivial) ⟨⟨hS293.hasK (((hS254.le.trans hl268).trans hl276).trans hl282),hS293.hasObj (.tail _ (.tail _ (.tail _ (.tail _ (.tail _ (.head _))))))⟩,(fun _=>hS293.hasObj (.tail _ (.tail _ (.tail _ (.tail _ (.tail _ (.tail _ (.tail _ (.head _))))))))),by decide⟩ wn rfl (fun _ _=>(rv_fieldAddr ff36_1 rfl)) ?_
     refine wg_one (i:=21) (by kernel_rfl) rfl ?_
     have hS294:SH _ _ _ _ _ [_,_,_,_,_,_,_,_,_]:=SH.front (p:=[_,_,_,_,_,_,_]) hS293
     refine wl_store (cs':=[.slice a73 n74 c75,.slice a77 n78 c79,.slice a286 n287 c288]) (v:=.slice a286 n287 c288) wn tf34 rfl rfl rfl (by simp [Value.cells,Value.oneCell']) hS294 rfl rfl ?_
     intro w295 hS296
     refine wl_nil (qe_held (listed':=L_ 22 21) rfl ⟨⟨hS296.hasK (((hS254.le.trans hl268).trans hl276).trans hl282),hS296.hasObj (.tail _ (.tail _ (.tail _ (.tail _ (.tail _ (.tail _ (.head _)))))))⟩,(fun h=>nomatch h),by decide⟩ ?_)
     refine wg_done (by kernel_rfl) ?_
     obtain rfl:=oi h204
     have hS297:SH _ _ _ _ _ [_,_,_,_,_,_,_,_,_]:=SH.front (p:=[_]) hS296
     have hS298:SH _ _ _ _ _ [_,_,_,_,_,_,_,_,_]:=SH.front (p:=[_]) hS297
     have hS299:SH _ _ _ _ _ [_,_,_,_,_,_,_,_,_]:=SH.front (p:=[_,_,_,_,_,_,_]) hS298
     have hS300:SH _ _ _ _ _ [_,_,_,_,_,_,_,_,_]:=SH.front (p:=[_,_,_,_,_,_,_]) hS299
     have hS301:SH _ _ _ _ _ [_,_,_,_,pack (tailsOf 116 3 (cs84++[.slice a255 n256 c257,.slice a259 n260 c261,.slice a271 n272 c273]))]:=SH.tailsJoin (p:=[_,_,_,_]) (hrow85.1.2 rfl) hS300
     exact qe_mid' ⟨a73,n74,c75,a77,n78,c79,a286,n287,c288,(cs84++[.slice a255 n256 c257,.slice a259 n260 c261,.slice a271 n272 c273]),K281,rfl,hS301,(((hS254.le.trans hl268).trans hl276).trans hl282),(SliceAt.mono (((hS254.le.trans hl268).trans hl276).trans hl282) hs76),(SliceAt.mono (((hS254.le.trans hl268).trans hl276).trans hl282) hs80),hrow291,hm292⟩ ⟨rfl,rfl,rfl,rfl,trivial⟩
    ·refine wl_buildSlice0 tInt wn rfl Tryz.underlying71 tf3 hS119 ?_
     intro a302 w303 K304 hl305 hs306 hS307
     refine wl_nil (qe_held (listed':=#[true,true,true,true,true,true,true,true,false,true,true,true,true,true,true,true,false,false,false,false,false,false]) rfl ⟨⟨hS307.hasK hl305,hS307.hasObj (.tail _ (.head _))⟩,(fun _=>hS307.hasObj (.tail _ (.tail _ (.tail _ (.head _))))),by decide⟩ ?_)
     refine wg_one (i:=8) (by kernel_rfl) rfl ?_
     refine wl_call wn rfl (rt_call (vs:=[.agg #[.slice a221 n222 c223,.slice a225 n226 c227]]) co174 rfl) ((ok_spec_l18CopySeg F) hS307.enter0 (SliceAt.mono hl305 hs224) (SliceAt.mono hl305 hs228) hx163) ?_
     rintro e319 w309 ⟨a311,n312,c313,a315,n316,c317,K308,rfl,hS310,hs314,hs318⟩
     refine⟨_,rfl,?_⟩
     have hS320:SH _ _ _ _ _ [_,_,_,_,_,_,_,_]:=SH.call0 hS307 hS310
     refine wl_nil (qe_held (listed':=L_ 22 15) rfl ⟨⟨hS320.hasK (hl305.trans hS310.le),hS320.hasObj (.tail _ (.tail _ (.tail _ (.head _))))⟩,(fun _=>hS320.hasObj (.tail _ (.tail _ (.tail _ (.tail _ (.tail _ (.head _))))))),by decide⟩ ?_)
     refine wg_one (i:=16) (by kernel_rfl) rfl ?_
     have hS321:SH _ _ _ _ _ [_,_,_,_,_,_,_,_]:=SH.front (p:=[_,_]) hS320
     refine wl_append (t:=tInt) wn rfl Tryz.underlying71 tf3 rfl rfl rfl rfl rfl (SliceAt.mono hS310.le hs306) (SliceAt.mono (hl305.trans hS310.le) hs250) hx185 hS321 ?_
     intro a322 n323 c324 w325 K326 hl327 hs328 hS329
     refine wl_nil (qe_held (listed':=L_ 22 16) rfl ⟨⟨hS329.hasK ((hl305.trans hS310.le).trans hl327),hS329.hasObj (.tail _ (.tail _ (.tail _ (.head _))))⟩,(fun _=>hS329.hasObj (.tail _ (.tail _ (.tail _ (.tail _ (.tail _ (.head _))))))),by decide⟩ ?_)
     refine wg_val (i:=17) (listed':=L_ 22 17) (fun _=>True) rfl (by kernel_rfl) (pk_then (pk_block (pk_then (pk_then (pk_block (pk_then (pk_then pk_body))))))) (by kernel_rfl) rfl (by kernel_rfl) (by kernel_rfl) rfl (.inl fun _ _=>trivial) ⟨⟨hS329.hasK ((hl305.trans hS310.le).trans hl327),hS329.hasObj (.tail _ (.tail _ (.tail _ (.head _))))⟩,(fun _=>hS329.hasObj (.tail _ (.tail _ (.tail _ (.tail _ (.tail _ (.head _))))))),by decide⟩ wn rfl (fun _ _=>(rv_build (cs:=#[.slice a311 n312 c313,.slice a315 n316 c317,.slice a322 n323 c324]) sp73 tf73 rfl (by kernel_rfl))) ?_
     refine wg_one (i:=18) (by kernel_rfl) rfl ?_
     refine wl_buildSlice (t:=tGLive.wc) (n:=1) (pv:=[(0,.agg #[.slice a311 n312 c313,.slice a315 n316 c317,.slice a322 n323 c324])]) (cs:=[.slice a311 n312 c313,.slice a315 n316 c317,.slice a322 n323 c324]) (xs:=[((GLive.mk r162 x184),[.slice a311 n312 c313,.slice a315 n316 c317,.slice a322 n323 c324])]) wn rfl Tryz.underlying34 tf73 rfl rfl rfl (by kernel_rfl) rfl rfl (lit_cons (t:=tGLive.wc) (u:=.agg #[.slice a311 n312 c313,.slice a315 n316 c317,.slice a322 n323 c324]) (z:=((GLive.mk r162 x184),[.slice a311 n312 c313,.slice a315 n316 c317,.slice a322 n323 c324])) ⟨⟨a311,n312,c313,a315,n316,c317,a322,n323,c324,rfl,(SliceAt.mono hl327 hs314),(SliceAt.mono hl327 hs318),hs328⟩,rfl⟩ lit_nil) hS329 ?_
     intro a330 w331 K332 hl333 hs334 hS335
     refine wl_nil (qe_held (listed':=L_ 22 18) rfl ⟨⟨hS335.hasK (((hl305.trans hS310.le).trans hl327).trans hl333),hS335.hasObj (.tail _ (.tail _ (.tail _ (.tail _ (.head _)))))⟩,(fun _=>hS335.hasObj (.tail _ (.tail _ (.tail _ (.tail _ (.tail _ (.tail _ (.head _)))))))),by decide⟩ ?_)
     refine wg_one (i:=19) (by kernel_rfl) rfl ?_
     have hS336:SH _ _ _ _ _ [_,_,_,_,_,_,_,_,_]:=SH.front (p:=[_,_,_,_,_,_,_]) hS335
     refine wl_appendT (t:=tGLive) wn rfl Tryz.underlying34 tf73 rfl rfl rfl rfl (RowAt.mono (((hl305.trans hS310.le).trans hl327).trans hl333) hrow85) hm86 hs334 hx203 hS336 ?_
     intro a337 n338 c339 w341 hrow342 hm343 hS344
     refine wl_nil (qe_held (listed':=L_ 22 19) rfl ⟨⟨hS344.hasK (((hl305.trans hS310.le).trans hl327).trans hl333),hS344.hasObj (.tail _ (.tail _ (.tail _ (.tail _ (.tail _ (.head _))))))⟩,(fun _=>hS344.hasObj (.tail _ (.tail _ (.tail _ (.tail _ (.tail _ (.tail _ (.tail _ (.head _))))))))),by decide⟩ ?_)
     refine wg_val (i:=20) (listed':=L_ 22 20) (fun _=>True) rfl (by kernel_rfl) (pk_then (pk_block (pk_then (pk_then (pk_block (pk_then (pk_then pk_body))))))) (by kernel_rfl) rfl (by kernel_rfl) (by kernel_rfl) rfl (.inl fun _ _=>trivial) ⟨⟨hS344.hasK (((hl305.trans hS310.le).trans hl327).trans hl333),hS344.hasObj (.tail _ (.tail _ (.tail _ (.tail _ (.tail _ (.head _))))))⟩,(fun _=>hS344.hasObj (.tail _ (.tail _ (.tail _ (.tail _ (.tail _ (.tail _ (.tail _ (.head _))))))))),by decide⟩ wn rfl (fun _ _=>(rv_fieldAddr ff36_1 rfl)) ?_
     refine wg_one (i:=21) (by kernel_rfl) rfl ?_
     have hS345:SH _ _ _ _ _ [_,_,_,_,_,_,_,_,_]:=SH.front (p:=[_,_,_,_,_,_,_]) hS344
     refine wl_store (cs':=[.slice a73 n74 c75,.slice a77 n78 c79,.slice a337 n338 c339]) (v:=.slice a337 n338 c339) wn tf34 rfl rfl rfl (by simp [Value.cells,Value.oneCell']) hS345 rfl rfl ?_
     intro w346 hS347
     refine wl_nil (qe_held (listed':=L_ 22 21) rfl ⟨⟨hS347.hasK (((hl305.trans hS310.le).trans hl327).trans hl333),hS347.hasObj (.tail _ (.tail _ (.tail _ (.tail _ (.tail _ (.tail _ (.head _)))))))⟩,(fun h=>nomatch h),by decide⟩ ?_)
     refine wg_done (by kernel_rfl) ?_
     obtain rfl:=oi h204
     have hS348:SH _ _ _ _ _ [_,_,_,_,_,_,_,_,_]:=SH.front (p:=[_]) hS347
     have hS349:SH _ _ _ _ _ [_,_,_,_,_,_,_,_,_]:=SH.front (p:=[_]) hS348
     have hS350:SH _ _ _ _ _ [_,_,_,_,_,_,_,_,_]:=SH.front (p:=[_,_,_,_,_,_,_]) hS349
     have hS351:SH _ _ _ _ _ [_,_,_,_,_,_,_,_,_]:=SH.front (p:=[_,_,_,_,_,_,_]) hS350
     have hS352:SH _ _ _ _ _ [_,_,_,_,pack (tailsOf 116 3 (cs84++[.slice a311 n312 c313,.slice a315 n316 c317,.slice a322 n323 c324]))]:=SH.tailsJoin (p:=[_,_,_,_]) (hrow85.1.2 rfl) hS351
     exact qe_mid' ⟨a73,n74,c75,a77,n78,c79,a337,n338,c339,(cs84++[.slice a311 n312 c313,.slice a315 n316 c317,.slice a322 n323 c324]),K332,rfl,hS352,(((hl305.trans hS310.le).trans hl327).trans hl333),(SliceAt.mono (((hl305.trans hS310.le).trans hl327).trans hl333) hs76),(SliceAt.mono (((hl305.trans hS310.le).trans hl327).trans hl333) hs80),hrow342,hm343⟩ ⟨rfl,rfl,rfl,rfl,trivial⟩
   ·rintro _ w102 ⟨a104,n105,c106,a108,n109,c110,a112,n113,c114,cs115,K100,rfl,hS103,hl101,hs107,hs111,hrow116,hm117⟩
    refine qe_block ?_
    refine qe_seq ?_
    refine wc_region ?_
    refine vm rfl rfl ?_
    refine wl_val wn rfl (rv_add rfl rfl) ?_
    refine va rfl rfl ?_
    refine wl_nil ?_
    obtain rfl:=oi h99
    exact qe_mid' ⟨_,rfl,a104,n105,c106,a108,n109,c110,a112,n113,c114,cs115,K100,rfl,hS103,(hl69.trans hl101),(w64_rng _),hs107,hs111,hrow116,hm117⟩ ⟨rfl,rfl,rfl,rfl,trivial⟩
  ·have h96:=cond_f hb95 h93
   refine wc_exit ?_
   refine qe_then_exit ?_
   refine qe_then_exit ?_
   obtain rfl:=oi h96
   have e353:=hx94 _ rfl
   subst e353
   refine qe_block_eq ?_
   obtain rfl:=oi h67
   have hS354:SH _ _ _ _ _ [_,_,_,_]:=SH.sublist hS71 (.cons _ (.cons_cons _ (.cons_cons _ (.cons_cons _ (.cons_cons _ .slnil)))))
   exact qe_mid' ⟨a73,n74,c75,a77,n78,c79,a81,n82,c83,cs84,K68,rfl,hS354,hl69,hs76,hs80,hrow85,hm86⟩ ⟨rfl,rfl,trivial⟩
 ·rintro _ w48 ⟨a50,n51,c52,a54,n55,c56,a58,n59,c60,cs61,K46,rfl,hS49,hl47,hs53,hs57,hrow62,hm63⟩
  refine qr ?_
  refine wl_val wn rfl (rv_loadmS (ds:=[.slice a50 n51 c52,.slice a54 n55 c56,.slice a58 n59 c60]) tf36 rfl (.tail _ (.head _)) hS49 rfl rfl) ?_
  refine wl_store (cs':=[.slice a50 n51 c52,.slice a54 n55 c56,.slice a58 n59 c60]) (v:=.agg #[.slice a50 n51 c52,.slice a54 n55 c56,.slice a58 n59 c60]) wn tf36 rfl rfl rfl (by simp [Value.cells,Value.oneCell']) hS49 rfl rfl ?_
  intro w355 hS356
  refine nq ?_
  refine wc_ret ?_
  obtain rfl:=oi h45
  have hS357:SH _ _ _ _ _ [_,_]:=SH.sublist hS356 (.cons _ (.cons _ (.cons_cons _ (.cons_cons _ .slnil))))
  exact qe_ret (vs:=[_]) Tryz.results110 ⟨⟨_,_,rfl,run_loadVar_at tf36 (cs:=[.slice a50 n51 c52,.slice a54 n55 c56,.slice a58 n59 c60]) (fun j c e=>by rw [Nat.zero_add,hS356.mem_obj (.head _)];exact e) (.inl ⟨rfl,rfl,rfl⟩)⟩,trivial⟩ ⟨a50,n51,c52,a54,n55,c56,a58,n59,c60,cs61,K46,rfl,hS357,hs53,hs57,hrow62,hm63⟩

theorem ok_spec_IndexMerge {q0:GIndex}{q1:Int}{r:GIndex×Bool}(hS:SH w K [] w K [])(aE:SliceAt tStr K A a b q0.Conf.Stops)(aF:SliceAt tGSyn K B c d q0.Conf.Syns)(ar:SliceAt tGLive K C f i q0.Segs)(bX:rng64 q1)(hm:M.spec_IndexMerge F q0 q1=some r):
  Calls prog 48 #[.agg #[V3 A a b,V3 B c d,V3 C f i],V6 q1] w fun e w'=>∃a_1 n_2 c_3 a_5 n_6 c_7 a_9 n_10 c_11 K',e= .returned (.tuple #[.agg #[V3 a_1 n_2 c_3,V3 a_5 n_6 c_7,V3 a_9 n_10 c_11],.bool r.2])∧SH w K [] w' K' [tail (V3 a_9 n_10 c_11) 73 3]∧SliceAt tStr K' a_1 n_2 c_3 r.1.Conf.Stops∧SliceAt tGSyn K' a_5 n_6 c_7 r.1.Conf.Syns∧SliceAt tGLive K' a_9 n_10 c_11 r.1.Segs:=by
 rw [M.spec_IndexMerge] at hm
 refine ci func48 u ntmps48 (sr (bx u hS fun aG dB bY=>?_))
 have bZ:SH _ _ _ _ _ [obj aG [V3 A a b,V3 B c d,V3 C f i] 36]:=bY
 refine al tf36 bZ fun aY dC ca=>?_
 have aZ:SH _ _ _ _ _ [obj aY [V3 none 0 0,V3 none 0 0,V3 none 0 0] 36,_]:=ca
 refine lv (r_f u) (nsr (lv (rv_loadmS (ds:=[V3 A a b,V3 B c d,V3 C f i]) tf36 u m1 aZ u u) ?_))
 obtain⟨dD,cb,cc⟩:=ob hm
 refine lk co57 (ok_spec_l18Ok F aZ.enter0 aE aF ar cb) ?_
 rintro dE dF ⟨cd,rfl,T⟩
 have aH:=(aZ.c0 T).t2
 refine lv (rv_not u) (nq (wcc cc u (fun ce ba=>?_) (fun ce ba=>?_)))
 ·refine sr (lv (rv_build (cs:=#[V3 none 0 0,V3 none 0 0,V3 none 0 0]) sp36 tf36 u (by kernel_rfl)) (lw [V3 none 0 0,V3 none 0 0,V3 none 0 0] tf36 aH fun dG bN=>(lv (r_f u) (nq (rr ?_)))))
  cases oi ba
  have cf:=bN.nil 73 3
  exact qe_ret (vs:=[_,_]) results48 ⟨⟨_,_,u,run_loadVar_at tf36 (cs:=[V3 none 0 0,V3 none 0 0,V3 none 0 0]) (fun j c e=>by rw [Nat.zero_add,bN.mem_obj m0];exact e) (.inl ⟨u,u,u⟩)⟩,u,trivial⟩ ⟨none,0,0,none,0,0,none,0,0,cd,u,cf.s,(SliceAt.nil _ _),(SliceAt.nil _ _),(SliceAt.nil _ _)⟩
 refine wc_skip (qs (sr (mv u (fl ff36_1 u tf34 m1 aH u (lv (rv_len underlying34 u (ar.mono T.le)) (lv (rv_sub u u) ?_))))))
 obtain⟨dH,cg,ch⟩:=ob ba
 refine lk co109 (ok_spec_l1In F aH.enter0 bX d_0 (w64_rng _) cg) ?_
 rintro dI dJ ⟨dK,rfl,U⟩
 have ai:=(aH.c0 U).t2
 refine lv (rv_not u) (nq (wcc ch u (fun cj bb=>?_) (fun cj bb=>?_)))
 ·refine sr (lv (rv_loadmS (ds:=[V3 A a b,V3 B c d,V3 C f i]) tf36 u m1 ai u u) ?_)
  obtain⟨dL,ck,cl⟩:=ob bb
  refine lk co110 (ok_spec_l18Copy F ai.enter0 (aE.mono (T.le.trans U.le)) (aF.mono (T.le.trans U.le)) (ar.mono (T.le.trans U.le)) ck) ?_
  rintro dM dN ⟨bc,bd,be,bf,bg,bh,bi,bj,bk,cs64,dO,rfl,cm,cn,cp,hrow65,hm66⟩
  have cq:=(ai.c0 cm).t3
  obtain⟨cr,bO,ct,cu⟩:=SH.freezeI cq hrow65 hm66
  refine lw [V3 bc bd be,V3 bf bg bh,V3 bi bj bk] tf36 cu.f1 fun dP bP=>(lv (r_f u) (nq (rr ?_)))
  cases oi cl
  exact qe_ret (vs:=[_,_]) results48 ⟨⟨_,_,u,run_loadVar_at tf36 (cs:=[V3 bc bd be,V3 bf bg bh,V3 bi bj bk]) (fun j c e=>by rw [Nat.zero_add,bP.mem_obj m0];exact e) (.inl ⟨u,u,u⟩)⟩,u,trivial⟩ ⟨bc,bd,be,bf,bg,bh,bi,bj,bk,cr,u,bP.s,(cn.mono bO),(cp.mono bO),ct⟩
 refine wc_skip (qr (fl ff36_1 u tf34 m1 ai u (mv u (mv u (lv (rv_add u u) ?_)))))
 obtain⟨cv,cw,cx⟩:=ob bb
 refine wl_sl_lh (t:=tGLive) wn u underlying34 tf73 u u u (ar.mono (T.le.trans U.le)) cw fun cy cz cA cB=>(lv (rv_build (cs:=#[V3 none 0 0,V3 none 0 0,V3 cy cz cA]) sp36 tf36 u (by kernel_rfl)) ?_)
 obtain⟨dQ,cC,cD⟩:=ob cx
 refine lk co99 ((ok_spec_l18Docs F (q0:=(GIndex.mk (GConf.mk ([]:List Str) ([]:List GSyn)) cv))) ai.enter0 (SliceAt.nil _ _) (SliceAt.nil _ _) cB cC) ?_
 rintro dR dS ⟨cE,cF,cG,dT,rfl,aj,cH⟩
 have bl:=(ai.c0 aj).t3
 refine av u (nr (lv (rv_loadmS (ds:=[V3 A a b,V3 B c d,V3 C f i]) tf36 u m2 bl u u) ?_))
 obtain⟨dU,cI,cJ⟩:=ob cD
 refine lk co110 (ok_spec_l18Copy F bl.enter0 (aE.mono ((T.le.trans U.le).trans aj.le)) (aF.mono ((T.le.trans U.le).trans aj.le)) (ar.mono ((T.le.trans U.le).trans aj.le)) cI) ?_
 rintro dV dW ⟨m,o,q,s,x,y,Y,aa,ab,cs113,dX,rfl,aI,bm,bn,hrow114,hm115⟩
 have cK:=(bl.c0 aI).t4
 obtain⟨bQ,V,bR,cL⟩:=SH.freezeI cK hrow114 hm115
 refine al tf36 cL fun ac dY cM=>?_
 have cN:SH _ _ _ _ _ [obj ac [V3 none 0 0,V3 none 0 0,V3 none 0 0] 36,_,_,_,_]:=cM
 refine lw [V3 m o q,V3 s x y,V3 Y aa ab] tf36 cN fun dZ cO=>(ns ?_)
 obtain⟨bo,cP,cQ⟩:=ob cJ
 refine wc_cutg (fun E' w'=>∃ak H I J O R S au aw ax ae,E'=[(1,V6 q1),(2,pt aG),(4,pt aY),(6,V3 cE cF cG),(7,pt ac),(8,pt ak)]∧SH w K [] w' ae [obj ak [V3 H I J,V3 O R S,V3 au aw ax] 36,tail (V3 au aw ax) 73 3,obj aG [V3 A a b,V3 B c d,V3 C f i] 36,obj aY [V3 none 0 0,V3 none 0 0,V3 none 0 0] 36,obj ac [V3 m o q,V3 s x y,V3 Y aa ab] 36,tail (V3 Y aa ab) 73 3]∧KLe bQ ae∧SliceAt tStr ae H I J bo.Conf.Stops∧SliceAt tGSyn ae O R S bo.Conf.Syns∧SliceAt tGLive ae au aw ax bo.Segs) ?_ ?_
 ·obtain⟨ea,cR,cS⟩:=ob cP
  obtain⟨eb,bp,bq⟩:=ob cS
  refine wc_held (fun w'=>Holds bQ w'∧HasObj ac [V3 m o q,V3 s x y,V3 Y aa ab] w') (fun w'=>True) 11 [] mixed ?_
  have G:=cO.drew
  refine wg_val (i:=0) (listed':=L_ 11 0) (fun _=>True) u (by kernel_rfl) (pk_then (pk_then pk_body)) (by kernel_rfl) u (by kernel_rfl) (by kernel_rfl) u (.inl fun _ _=>trivial) ⟨⟨G.hasK kr,G.hasObj m0⟩,(fun _=>trivial),by decide⟩ wn u (fun _ _=>(rv_fieldAddr ff36_0 u)) (wg_val (i:=1) (listed':=L_ 11 1) (HasObj ac [V3 m o q,V3 s x y,V3 Y aa ab]) u (by kernel_rfl) (pk_then (pk_then pk_body)) (by kernel_rfl) u (by kernel_rfl) (by kernel_rfl) u (.inl fun _ h=>h.2) ⟨⟨G.hasK kr,G.hasObj m0⟩,(fun _=>trivial),by decide⟩ wn u (fun _ h=>rh_loadmS (ds:=[V3 m o q,V3 s x y]) tf33 u u u h) (wg_val (i:=3) (listed':=#[true,true,false,true,false,false,false,false,false,false,false]) (fun _=>True) u (by kernel_rfl) (pk_then (pk_then pk_body)) (by kernel_rfl) u (by kernel_rfl) (by kernel_rfl) u (.inl fun _ _=>trivial) ⟨⟨G.hasK kr,G.hasObj m0⟩,(fun _=>trivial),by decide⟩ wn u (fun _ _=>(rv_fieldAddr ff36_1 u)) ?_))
  refine wg_val (i:=4) (listed':=#[true,true,false,true,true,false,false,false,false,false,false]) (HasObj ac [V3 m o q,V3 s x y,V3 Y aa ab]) u (by kernel_rfl) (pk_then (pk_then pk_body)) (by kernel_rfl) u (by kernel_rfl) (by kernel_rfl) u (.inl fun _ h=>h.2) ⟨⟨G.hasK kr,G.hasObj m0⟩,(fun _=>trivial),by decide⟩ wn u (fun _ h=>rh_loadm1 tf34 u u h) (wg_val (i:=5) (listed':=#[true,true,false,true,true,true,false,false,false,false,false]) (fun _=>True) u (by kernel_rfl) (pk_then (pk_then pk_body)) (by kernel_rfl) u (by kernel_rfl) (by kernel_rfl) u (.inl fun _ _=>trivial) ⟨⟨G.hasK kr,G.hasObj m0⟩,(fun _=>trivial),by decide⟩ wn u (fun _ _=>(rv_move u)) (wg_sl_h (t:=tGLive) (j:=6) (listed':=#[true,true,false,true,true,true,true,false,false,false,false]) u (by kernel_rfl) (pk_then (pk_then pk_body)) (by kernel_rfl) u (by kernel_rfl) (by kernel_rfl) u ⟨⟨G.hasK kr,G.hasObj m0⟩,(fun _=>trivial),by decide⟩ wn u underlying34 tf73 u u bR cR fun ec ed ee br=>(wg_many (l:=[2,9]) (by kernel_rfl) u ⟨⟨_,u,?_⟩,⟨_,u,?_⟩,trivial⟩)))
  ·refine b0 tGLive underlying34 tf73 G fun ef eg eh D bS aJ=>(wl_nil (qe_held (listed':=L_ 11 6) u ⟨⟨aJ.hasK D,aJ.hasObj m1⟩,(fun _=>trivial),by decide⟩ (wg_many (l:=[7,9]) (by kernel_rfl) u ⟨⟨_,u,?_⟩,⟨_,u,?_⟩,trivial⟩)))
   ·refine lp underlying34 tf73 bS (br.mono D) bp aJ fun bs bu bv ei cT af cU ay=>(wl_nil (qe_held (listed':=L_ 11 7) u ⟨⟨ay.hasK (D.trans af),ay.hasObj m1⟩,(fun _=>trivial),by decide⟩ (wg_val (i:=8) (listed':=L_ 11 8) (fun _=>True) u (by kernel_rfl) (pk_then (pk_then pk_body)) (by kernel_rfl) u (by kernel_rfl) (by kernel_rfl) u (.inl fun _ _=>trivial) ⟨⟨ay.hasK (D.trans af),ay.hasObj m1⟩,(fun _=>trivial),by decide⟩ wn u (fun _ _=>(rv_build (cs:=#[V3 m o q,V3 s x y,V3 bs bu bv]) sp36 tf36 u (by kernel_rfl))) (wg_one (i:=9) (by kernel_rfl) u (al tf36 ay fun bT ej cV=>?_)))))
    have bz:SH _ _ _ _ _ [obj bT [V3 none 0 0,V3 none 0 0,V3 none 0 0] 36,_,_,_,_,_,_]:=cV
    refine wl_nil (qe_held (listed':=L_ 11 9) u ⟨⟨bz.hasK (D.trans af),bz.hasObj m2⟩,(fun _=>trivial),by decide⟩ (wg_one (i:=10) (by kernel_rfl) u (lw [V3 m o q,V3 s x y,V3 bs bu bv] tf36 bz fun ek bA=>(wl_nil (qe_held (listed':=L_ 11 10) u ⟨⟨bA.hasK (D.trans af),bA.hasObj m2⟩,(fun _=>trivial),by decide⟩ (wg_done (by kernel_rfl) ?_))))))
    cases oi bq
    exact qd ⟨bT,m,o,q,s,x,y,bs,bu,bv,cT,u,bA.f3.f3.f5.f6.f5.f5.s,(D.trans af),(bm.mono ((V.trans D).trans af)),(bn.mono ((V.trans D).trans af)),cU⟩
   refine al tf36 aJ fun bU el cW=>?_
   have bB:SH _ _ _ _ _ [obj bU [V3 none 0 0,V3 none 0 0,V3 none 0 0] 36,_,_,_,_,_,_]:=cW
   refine wl_nil (qe_held (listed':=#[true,true,true,true,true,true,true,false,false,true,false]) u ⟨⟨bB.hasK D,bB.hasObj m2⟩,(fun _=>trivial),by decide⟩ (wg_one (i:=7) (by kernel_rfl) u (lp underlying34 tf73 bS (br.mono D) bp bB.f1 fun bC bD bE em cX am cY az=>(wl_nil (qe_held (listed':=#[true,true,true,true,true,true,true,true,false,true,false]) u ⟨⟨az.hasK (D.trans am),az.hasObj m2⟩,(fun _=>trivial),by decide⟩ (wg_val (i:=8) (listed':=L_ 11 9) (fun _=>True) u (by kernel_rfl) (pk_then (pk_then pk_body)) (by kernel_rfl) u (by kernel_rfl) (by kernel_rfl) u (.inl fun _ _=>trivial) ⟨⟨az.hasK (D.trans am),az.hasObj m2⟩,(fun _=>trivial),by decide⟩ wn u (fun _ _=>(rv_build (cs:=#[V3 m o q,V3 s x y,V3 bC bD bE]) sp36 tf36 u (by kernel_rfl))) (wg_one (i:=10) (by kernel_rfl) u (lw [V3 m o q,V3 s x y,V3 bC bD bE] tf36 az.f1 fun en bF=>?_))))))))
   refine wl_nil (qe_held (listed':=L_ 11 10) u ⟨⟨bF.hasK (D.trans am),bF.hasObj m2⟩,(fun _=>trivial),by decide⟩ (wg_done (by kernel_rfl) ?_))
   cases oi bq
   exact qd ⟨bU,m,o,q,s,x,y,bC,bD,bE,cX,u,bF.f3.f3.f5.f6.f5.f5.s,(D.trans am),(bm.mono ((V.trans D).trans am)),(bn.mono ((V.trans D).trans am)),cY⟩
  refine al tf36 G fun bV eo cZ=>?_
  have bG:SH _ _ _ _ _ [obj bV [V3 none 0 0,V3 none 0 0,V3 none 0 0] 36,_,_,_,_,_]:=cZ
  refine wl_nil (qe_held (listed':=#[true,true,false,true,true,true,true,false,false,true,false]) u ⟨⟨bG.hasK kr,bG.hasObj m1⟩,(fun _=>trivial),by decide⟩ (wg_one (i:=2) (by kernel_rfl) u (b0 tGLive underlying34 tf73 bG fun ep eq es ad da bH=>(wl_nil (qe_held (listed':=#[true,true,true,true,true,true,true,false,false,true,false]) u ⟨⟨bH.hasK ad,bH.hasObj m2⟩,(fun _=>trivial),by decide⟩ (wg_one (i:=7) (by kernel_rfl) u (lp underlying34 tf73 da (br.mono ad) bp bH fun bI bJ bK et db an dc aA=>(wl_nil (qe_held (listed':=#[true,true,true,true,true,true,true,true,false,true,false]) u ⟨⟨aA.hasK (ad.trans an),aA.hasObj m2⟩,(fun _=>trivial),by decide⟩ (wg_val (i:=8) (listed':=L_ 11 9) (fun _=>True) u (by kernel_rfl) (pk_then (pk_then pk_body)) (by kernel_rfl) u (by kernel_rfl) (by kernel_rfl) u (.inl fun _ _=>trivial) ⟨⟨aA.hasK (ad.trans an),aA.hasObj m2⟩,(fun _=>trivial),by decide⟩ wn u (fun _ _=>(rv_build (cs:=#[V3 m o q,V3 s x y,V3 bI bJ bK]) sp36 tf36 u (by kernel_rfl))) (wg_one (i:=10) (by kernel_rfl) u ?_)))))))))))
  refine lw [V3 m o q,V3 s x y,V3 bI bJ bK] tf36 aA.f1 fun eu bL=>(wl_nil (qe_held (listed':=L_ 11 10) u ⟨⟨bL.hasK (ad.trans an),bL.hasObj m2⟩,(fun _=>trivial),by decide⟩ (wg_done (by kernel_rfl) ?_)))
  cases oi bq
  exact qd ⟨bV,m,o,q,s,x,y,bI,bJ,bK,db,u,bL.f3.f3.f5.f6.f5.f5.s,(ad.trans an),(bm.mono ((V.trans ad).trans an)),(bn.mono ((V.trans ad).trans an)),dc⟩
 rintro _ ev ⟨ak,H,I,J,O,R,S,au,aw,ax,ae,rfl,dd,aK,de,df,dg⟩
 refine qs ?_
 have aB:=dd.drew
 refine wh1 (fun w'=>Holds ae w'∧HasObj aG [V3 A a b,V3 B c d,V3 C f i] w') (fun w'=>HasObj ak [V3 H I J,V3 O R S,V3 au aw ax] w') 10 [(1,8),(1,9),(1,10),(8,9),(8,10),(9,10)] mixed ⟨aB.hasK kr,aB.hasObj m2⟩ (fun _=>aB.hasObj (.head _)) (gt (rv_fieldAddr ff36_1 u) (gf (fun _ h=>rh_loadm1 tf34 u u h) (gt (rv_fieldAddr ff36_0 u) (gh (fun _ h=>rh_loadmS (ds:=[V3 A a b,V3 B c d]) tf33 u u u h.2) (gt (rv_move u) (gn ?_))))))
 obtain⟨dh,di,dj⟩:=ob cQ
 refine lk co68 (ok_spec_l7Of F aB.enter0 (SliceAt.mono (((((T.le.trans U.le).trans aj.le).trans aI.le).trans V).trans aK) aE) (SliceAt.mono (((((T.le.trans U.le).trans aj.le).trans aI.le).trans V).trans aK) aF) (cH.mono ((aI.le.trans V).trans aK)) di) ?_
 rintro ew ex ⟨aL,aM,aN,aO,aP,aQ,cs277,eA,rfl,W,dk,hrow278,hm279⟩
 have dl:=(aB.c0 W).t8
 obtain⟨eB,X,dm,aR⟩:=SH.freezeI dl.f1 hrow278 hm279
 refine wl_nil (qh ⟨aR.hasK (W.le.trans X),aR.hasObj m4⟩ (fun _=>aR.hasObj (.tail _ (.tail _ (.head _)))) (gt (rv_build (cs:=#[V3 aL aM aN,V3 aO aP aQ,V3 none 0 0]) sp73 tf73 u (by kernel_rfl)) (gn (lb tGLive (.agg #[V3 aL aM aN,V3 aO aP aQ,V3 none 0 0]) [V3 aL aM aN,V3 aO aP aQ,V3 none 0 0] (GLive.mk dh ([]:List Int)) underlying34 tf73 ⟨aL,aM,aN,aO,aP,aQ,none,0,0,u,(dk.mono X),dm,(SliceAt.nil _ _)⟩ aR fun eC eD eE ag dn aS=>(wl_nil (qh ⟨aS.hasK ((W.le.trans X).trans ag),aS.hasObj m5⟩ (fun _=>aS.hasObj (.tail _ (.tail _ (.tail _ (.head _))))) (gn ?_)))))))
 obtain⟨eF,dp,dq⟩:=ob dj
 refine lp underlying34 tf73 (dg.mono ((W.le.trans X).trans ag)) dn dp aS.f4 fun aT aU aV eG dr aC dt aW=>(wl_nil (qh ⟨aW.hasK (((W.le.trans X).trans ag).trans aC),aW.hasObj m5⟩ (fun _=>aW.hasObj (.tail _ (.tail _ (.tail _ (.tail _ (.head _)))))) (gt (rv_fieldAddr ff36_1 u) (gn (ls [V3 H I J,V3 O R S,V3 aT aU aV] (V3 aT aU aV) tf34 aW.f4 fun eH bM=>(wl_nil (qh ⟨bM.hasK (((W.le.trans X).trans ag).trans aC),bM.hasObj m5⟩ (fun h=>nomatch h) (gd' (qs (wc_held (fun w'=>Holds dr w'∧HasObj ac [V3 m o q,V3 s x y,V3 Y aa ab] w') (fun w'=>HasObj ak [V3 H I J,V3 O R S,V3 aT aU aV] w') 9 [(1,7),(1,8),(1,9),(7,8),(7,9),(8,9)] mixed ?_))))))))))
 have k:=bM.drew
 refine wg_val (i:=0) (listed':=L_ 10 0) (fun _=>True) u (by kernel_rfl) (pk_then pk_body) (by kernel_rfl) u (by kernel_rfl) (by kernel_rfl) u (.inl fun _ _=>trivial) ⟨⟨k.hasK kr,k.hasObj m7⟩,(fun _=>k.hasObj (.head _)),by decide⟩ wn u (fun _ _=>(rv_fieldAddr ff36_1 u)) (wg_val (i:=1) (listed':=L_ 10 1) (HasObj ak [V3 H I J,V3 O R S,V3 aT aU aV]) u (by kernel_rfl) (pk_then pk_body) (by kernel_rfl) u (by kernel_rfl) (by kernel_rfl) u (.inr ⟨u,fun _ _ h=>h⟩) ⟨⟨k.hasK kr,k.hasObj m7⟩,(fun _=>k.hasObj (.head _)),by decide⟩ wn u (fun _ h=>rh_loadm1 tf34 u u h) (wg_val (i:=2) (listed':=L_ 10 2) (fun _=>True) u (by kernel_rfl) (pk_then pk_body) (by kernel_rfl) u (by kernel_rfl) (by kernel_rfl) u (.inl fun _ _=>trivial) ⟨⟨k.hasK kr,k.hasObj m7⟩,(fun _=>k.hasObj (.head _)),by decide⟩ wn u (fun _ _=>(rv_fieldAddr ff36_1 u)) ?_))
 refine wg_val (i:=3) (listed':=L_ 10 3) (HasObj ac [V3 m o q,V3 s x y,V3 Y aa ab]) u (by kernel_rfl) (pk_then pk_body) (by kernel_rfl) u (by kernel_rfl) (by kernel_rfl) u (.inl fun _ h=>h.2) ⟨⟨k.hasK kr,k.hasObj m7⟩,(fun _=>k.hasObj (.head _)),by decide⟩ wn u (fun _ h=>rh_loadm1 tf34 u u h) (wg_val (i:=4) (listed':=L_ 10 4) (fun _=>True) u (by kernel_rfl) (pk_then pk_body) (by kernel_rfl) u (by kernel_rfl) (by kernel_rfl) u (.inl fun _ _=>trivial) ⟨⟨k.hasK kr,k.hasObj m7⟩,(fun _=>k.hasObj (.head _)),by decide⟩ wn u (fun _ _=>(rv_move u)) (wg_val (i:=5) (listed':=L_ 10 5) (fun _=>True) u (by kernel_rfl) (pk_then pk_body) (by kernel_rfl) u (by kernel_rfl) (by kernel_rfl) u (.inl fun _ _=>trivial) ⟨⟨k.hasK kr,k.hasObj m7⟩,(fun _=>k.hasObj (.head _)),by decide⟩ wn u (fun _ _=>(rv_add u u)) ?_))
 obtain⟨eI,du,dv⟩:=ob dq
 refine wg_sl_l (t:=tGLive) (j:=6) (listed':=L_ 10 6) u (by kernel_rfl) (pk_then pk_body) (by kernel_rfl) u (by kernel_rfl) (by kernel_rfl) u ⟨⟨k.hasK kr,k.hasObj m7⟩,(fun _=>k.hasObj (.head _)),by decide⟩ wn u underlying34 tf73 u u (SliceAt.mono ((((aK.trans W.le).trans X).trans ag).trans aC) bR) du fun eJ eK eL dw=>(wg_one (i:=7) (by kernel_rfl) u ?_)
 obtain⟨eM,dx,dy⟩:=ob dv
 refine lp underlying34 tf73 dt dw dx k.f1 fun ao ap aq eN dz aD dA ah=>(wl_nil (qe_held (listed':=L_ 10 7) u ⟨⟨ah.hasK aD,ah.hasObj m7⟩,(fun _=>ah.hasObj (.tail _ (.head _))),by decide⟩ (wg_val (i:=8) (listed':=L_ 10 8) (fun _=>True) u (by kernel_rfl) (pk_then pk_body) (by kernel_rfl) u (by kernel_rfl) (by kernel_rfl) u (.inl fun _ _=>trivial) ⟨⟨ah.hasK aD,ah.hasObj m7⟩,(fun _=>ah.hasObj (.tail _ (.head _))),by decide⟩ wn u (fun _ _=>(rv_fieldAddr ff36_1 u)) (wg_one (i:=9) (by kernel_rfl) u (ls [V3 H I J,V3 O R S,V3 ao ap aq] (V3 ao ap aq) tf34 ah.f1 fun eO aX=>(wl_nil (qe_held (listed':=L_ 10 9) u ⟨⟨aX.hasK aD,aX.hasObj m7⟩,(fun h=>nomatch h),by decide⟩ (wg_done (by kernel_rfl) (qr (lv (rv_loadmS (ds:=[V3 H I J,V3 O R S,V3 ao ap aq]) tf36 u m0 aX u u) (lw [V3 H I J,V3 O R S,V3 ao ap aq] tf36 aX.f6 fun eP bW=>?_)))))))))))
 refine lv (r_t u) (nq (wc_ret ?_))
 cases oi dy
 exact qe_ret (vs:=[_,_]) results48 ⟨⟨_,_,u,run_loadVar_at tf36 (cs:=[V3 H I J,V3 O R S,V3 ao ap aq]) (fun j c e=>by rw [Nat.zero_add,bW.mem_obj m0];exact e) (.inl ⟨u,u,u⟩)⟩,u,trivial⟩ ⟨H,I,J,O,R,S,ao,ap,aq,dz,u,bW.s,(SliceAt.mono ((((W.le.trans X).trans ag).trans aC).trans aD) de),(SliceAt.mono ((((W.le.trans X).trans ag).trans aC).trans aD) df),dA⟩

theorem ok_spec_l8Put {q0:List Int}{q1:Int}{r:(List Int)}(hS:SH w K [] w K [])(f:SliceAt tInt K A a b q0)(T:rng64 q1)(hm:M.spec_l8Put F q0 q1=some r):
  Calls prog 180 #[V3 A a b,V6 q1] w fun e w'=>∃a_1 n_2 c_3 K',e= .returned (V3 a_1 n_2 c_3)∧SH w K [] w' K' []∧SliceAt tInt K' a_1 n_2 c_3 r:=by
 rw [M.spec_l8Put] at hm
 refine ci func180 u ntmps180 (sr (lv (r_n u) (nr (lv (r_0 u) (ns ?_)))))
 obtain⟨m,U,V⟩:=ob hm
 refine wc_cutg (IW w K [] K [(0,V3 A a b),(1,V6 q1),(5,V6 m)] [] (rng64 m)) ?_ ?_
 ·refine wc_block ?_
  obtain⟨bg,W,X⟩:=ob U
  refine qw (fun (k:Int)=>IW w K [] K [(0,V3 A a b),(1,V6 q1),(5,V6 k)] [] (rng64 k)) W ⟨K,u,hS,kr,d_0⟩ ?_
  rintro k _ bh bi Y aa ⟨o,rfl,q,l,ab⟩
  refine wc_seq (wc_seq ?_)
  obtain⟨ac,ad,ae⟩:=ob Y
  refine wc_cutg (IV w K [] o [(0,V3 A a b),(1,V6 q1),(5,V6 k),(18,.bool ac)] []) ?_ ?_
  ·refine wc_region (mv u (mv u (lv (rv_len underlying71 u (f.mono l)) (lv (rv_lss u u) (mv u (bt ad (fun c s=>?_) (fun c s=>?_)))))))
   ·refine lg c (rv_move u) (lg c (rv_move u) ?_)
    obtain⟨af,ag,ah⟩:=ob s
    refine wl_indexAddr (t:=tInt) (wg u u c) u underlying71 tf3 u u (f.mono l) ag fun ai aj bj ak al=>?_
    obtain⟨rfl,bk⟩:=ak
    have am:AtK _ ai aj [V6 af]:=al
    refine lg c (rv_load1 tf3 u q (am 0 _ u)) (lg c (rv_move u) (lg c (rv_lss u u) (lv (rv_pick_t u c u) (wl_nil ?_))))
    cases oi ah
    exact qd ⟨o,u,q,kr⟩
   iterate 6 refine lu c ?_
   refine lv (p_f u c u) (wl_nil ?_)
   cases oi s
   exact qd ⟨o,u,q,kr⟩
  rintro _ bl ⟨H,rfl,I,J⟩
  refine qe_seq (wcc ae u (fun an x=>?_) (fun an x=>?_))
  ·refine wc_skip (qe_seq (wc_block (wc_region (mv u (lv (rv_add u u) (av u (nb ?_)))))))
   cases oi x
   exact qd ⟨_,u,H,u,I,(l.trans J),(w64_rng _)⟩
  refine wc_exit (qe_then_exit (qe_then_exit ?_))
  cases oi x
  cases aa _ u
  refine qe_block_eq ?_
  cases oi X
  exact qd ⟨H,u,I,(l.trans J),ab⟩
 rintro _ bm ⟨y,rfl,B,i,bn⟩
 refine qs (wc_seq ?_)
 obtain⟨ao,ap,aq⟩:=ob V
 refine wc_cutg (IV w K [] y [(0,V3 A a b),(1,V6 q1),(5,V6 m),(32,.bool ao)] []) ?_ ?_
 ·refine wc_region (mv u (mv u (lv (rv_len underlying71 u (f.mono i)) (lv (rv_lss u u) (mv u (bt ap (fun d C=>?_) (fun d C=>?_)))))))
  ·refine lg d (rv_move u) (lg d (rv_move u) ?_)
   obtain⟨ar,au,aw⟩:=ob C
   refine wl_indexAddr (t:=tInt) (wg u u d) u underlying71 tf3 u u (f.mono i) au fun ax ay bo az aA=>?_
   obtain⟨rfl,bp⟩:=az
   have aB:AtK _ ax ay [V6 ar]:=aA
   refine lg d (rv_load1 tf3 u B (aB 0 _ u)) (lg d (rv_move u) (lg d (rv_eql u u) (lv (rv_pick_t u d u) (wl_nil ?_))))
   cases oi aw
   exact qd ⟨y,u,B,kr⟩
  iterate 6 refine lu d ?_
  refine lv (p_f u d u) (wl_nil ?_)
  cases oi C
  exact qd ⟨y,u,B,kr⟩
 rintro _ bq ⟨aC,rfl,O,D⟩
 refine qe_seq (wcc aq u (fun aD G=>?_) (fun aD G=>?_))
 ·refine sr (mv u (av u (nq (rr ?_))))
  cases oi G
  exact ey results180 ⟨A,a,b,aC,u,O,(f.mono (i.trans D))⟩
 refine wc_skip (qr (b0 tInt underlying71 tf3 O fun br bs bu R aE aF=>(mv u (mv u ?_))))
 obtain⟨bv,aG,aH⟩:=ob G
 refine wl_sl_h (t:=tInt) wn u underlying71 tf3 u u (f.mono ((i.trans D).trans R)) aG fun bx bz bA aI=>?_
 obtain⟨bB,aJ,aK⟩:=ob aH
 refine lp underlying71 tf3 aE aI aJ aF fun bC bD bE bF bG aL aM aN=>(av u (nr (mv u (mv u (lb tInt (V6 q1) [V6 q1] q1 underlying71 tf3 ⟨u,T⟩ aN fun bH bI bJ S aO aP=>?_)))))
 obtain⟨bK,aQ,aR⟩:=ob aK
 refine lp underlying71 tf3 (aM.mono S) aO aQ aP.f1 fun bL bM bN bO bP aS aT aU=>(av u (nr (mv u (mv u (mv u ?_)))))
 obtain⟨bQ,aV,aW⟩:=ob aR
 refine wl_sl_l (t:=tInt) wn u underlying71 tf3 u u (SliceAt.mono (((((i.trans D).trans R).trans aL).trans S).trans aS) f) aV fun bR bS bT aX=>?_
 obtain⟨bU,aY,aZ⟩:=ob aW
 refine lp underlying71 tf3 aT aX aY aU fun ba bb bc bV bd bW be bf=>(av u (nq (wc_ret ?_)))
 cases oi aZ
 exact ey results180 ⟨ba,bb,bc,bd,u,bf.s,be⟩

theorem ok_spec_l18Gone {q0:GIndex}{q1:Int}{r:GIndex×Bool}(hS:SH w K [] w K [])(bp:SliceAt tStr K A a b q0.Conf.Stops)(bq:SliceAt tGSyn K B c d q0.Conf.Syns)(bd:SliceAt tGLive K C f i q0.Segs)(aO:rng64 q1)(hm:M.spec_l18Gone F q0 q1=some r):
  Calls prog 114 #[.agg #[V3 A a b,V3 B c d,V3 C f i],V6 q1] w fun e w'=>∃a_1 n_2 c_3 a_5 n_6 c_7 a_9 n_10 c_11 K',e= .returned (.tuple #[.agg #[V3 a_1 n_2 c_3,V3 a_5 n_6 c_7,V3 a_9 n_10 c_11],.bool r.2])∧SH w K [] w' K' [tail (V3 a_9 n_10 c_11) 73 3]∧SliceAt tStr K' a_1 n_2 c_3 r.1.Conf.Stops∧SliceAt tGSyn K' a_5 n_6 c_7 r.1.Conf.Syns∧SliceAt tGLive K' a_9 n_10 c_11 r.1.Segs:=by
 rw [M.spec_l18Gone] at hm
 refine ci func114 u ntmps114 (sr (bx u hS fun ac cG br=>?_))
 have bs:SH _ _ _ _ _ [obj ac [V3 A a b,V3 B c d,V3 C f i] 36]:=br
 refine al tf36 bs fun o cH bu=>?_
 have be:SH _ _ _ _ _ [obj o [V3 none 0 0,V3 none 0 0,V3 none 0 0] 36,_]:=bu
 refine lv (r_f u) (nr (fa ff36_0 u (lv (rv_loadmS (ds:=[V3 A a b,V3 B c d]) tf33 u m1 be u u) (lv (rv_build (cs:=#[V3 A a b,V3 B c d,V3 none 0 0]) sp36 tf36 u (by kernel_rfl)) (al tf36 be fun q cI bv=>?_)))))
 have bz:SH _ _ _ _ _ [obj q [V3 none 0 0,V3 none 0 0,V3 none 0 0] 36,_,_]:=bv
 refine lw [V3 A a b,V3 B c d,V3 none 0 0] tf36 bz fun cJ bA=>(nr (lv (r_f u) (nsr (lv (r_0 u) (nq ?_)))))
 obtain⟨aF,bB,bC⟩:=ob hm
 refine wc_cutg (fun E' w'=>∃ad ae af ag ah ai R S T aj,E'=[(4,pt o),(6,pt q),(7,.bool aF.1)]∧SH w K [] w' aj [obj o [V3 none 0 0,V3 none 0 0,V3 none 0 0] 36,obj q [V3 ad ae af,V3 ag ah ai,V3 R S T] 36,tail (V3 R S T) 73 3]∧KLe K aj∧SliceAt tStr aj ad ae af aF.2.Conf.Stops∧SliceAt tGSyn aj ag ah ai aF.2.Conf.Syns∧SliceAt tGLive aj R S T aF.2.Segs) ?_ ?_
 ·refine wc_block ?_
  obtain⟨cK,bD,bE⟩:=ob bB
  have bF:=bA.nil 73 3
  refine qw (fun (l:Bool×Int×GIndex) E' w'=>∃U V W X Y aa s x y ab,E'=[(1,V6 q1),(2,pt ac),(4,pt o),(6,pt q),(7,.bool l.1),(8,V6 l.2.1)]∧SH w K [] w' ab [obj ac [V3 A a b,V3 B c d,V3 C f i] 36,obj o [V3 none 0 0,V3 none 0 0,V3 none 0 0] 36,obj q [V3 U V W,V3 X Y aa,V3 s x y] 36,tail (V3 s x y) 73 3]∧KLe K ab∧rng64 l.2.1∧SliceAt tStr ab U V W l.2.2.Conf.Stops∧SliceAt tGSyn ab X Y aa l.2.2.Conf.Syns∧SliceAt tGLive ab s x y l.2.2.Segs) bD ⟨A,a,b,B,c,d,none,0,0,K,u,bF.f1.f2.f3,kr,d_0,bp,bq,(SliceAt.nil _ _)⟩ ?_
  rintro l _ cL cM bG bH ⟨U,V,W,X,Y,aa,s,x,y,ab,rfl,aC,aG,cN,bf,bg,bh⟩
  refine wc_seq (sr (mv u (fl ff36_1 u tf34 m0 aC u (lv (rv_len underlying34 u (bd.mono aG)) (lv (rv_lss u u) (nq (wcc bG u (fun bI aP=>?_) (fun bI aP=>?_))))))))
  ·refine wc_skip (qs (wc_block (sr (fl ff36_1 u tf34 m0 aC u (mv u ?_)))))
   obtain⟨cO,bJ,bK⟩:=ob aP
   refine li underlying34 tf73 (bd.mono aG) bJ fun bL bM cP bN bO=>?_
   obtain⟨D,G,H,I,J,O,ax,ay,az,rfl,aH,aI,aQ⟩:=bN
   have bP:AtK _ bL bM [V3 D G H,V3 I J O,V3 ax ay az]:=bO
   refine lv (rv_loadS tf73 u aC bP u) (al tf73 aC fun aD cQ bQ=>?_)
   have bR:SH _ _ _ _ _ [obj aD [V3 none 0 0,V3 none 0 0,V3 none 0 0] 73,_,_,_,_]:=bQ
   refine lw [V3 D G H,V3 I J O,V3 ax ay az] tf73 bR fun cR aR=>(ns (wc_seq ?_))
   obtain⟨bS,bT,bU⟩:=ob bK
   refine wc_cutg (IV w K [] ab [(1,V6 q1),(2,pt ac),(4,pt o),(6,pt q),(7,.bool l.1),(8,V6 l.2.1),(9,pt aD),(36,.bool bS)] [obj ac [V3 A a b,V3 B c d,V3 C f i] 36,obj o [V3 none 0 0,V3 none 0 0,V3 none 0 0] 36,obj q [V3 U V W,V3 X Y aa,V3 s x y] 36,tail (V3 s x y) 73 3,obj aD [V3 D G H,V3 I J O,V3 ax ay az] 73]) ?_ ?_
   ·refine wc_region (fa ff73_0 u (lv (rv_loadmS (ds:=[V3 D G H,V3 I J O]) tf46 u m0 aR u u) (mv u ?_)))
    obtain⟨cS,bV,bW⟩:=ob bT
    refine lk co120 (ok_spec_l12Doc F aR.enter0 aH aI aO bV) ?_
    rintro cT cU ⟨cV,cW,cX,cY,cZ,da,bX,rfl,aA,db,dc,dd⟩
    have aJ:=(aR.c0 aA).t5
    refine lv (rv_field fg77_0 tf3 u (.inl ⟨u,u⟩)) (lv (rv_neq u u) (mv u (bt bW (fun k aS=>?_) (fun k aS=>?_))))
    ·refine lg k (rv_loadmS (ds:=[V3 D G H,V3 I J O,V3 ax ay az]) tf73 u m0 aJ u u) (lg k (rv_move u) ?_)
     obtain⟨de,bY,bZ⟩:=ob aS
     refine wl_call (wg u u k) u (rt_call (vs:=[.agg #[V3 D G H,V3 I J O,V3 ax ay az],V6 q1]) co167 u) (ok_spec_l18Dead F aJ.enter0 (aH.mono aA.le) (aI.mono aA.le) (aQ.mono aA.le) aO bY) ?_
     rintro df dg ⟨ca,rfl,bi⟩
     refine⟨_,u,?_⟩
     have cb:=(aJ.c0 bi).t5
     refine lg k (rv_not u) (lv (rv_pick_t u k u) (wl_nil ?_))
     cases oi bZ
     exact qd ⟨ca,u,cb.f4.f4.f4.f4,(aA.le.trans bi.le)⟩
    refine lu k (lu k (lu k (lu k (lv (p_f u k u) (wl_nil ?_)))))
    cases oi aS
    exact qd ⟨bX,u,aJ.f4.f4.f4.f4,aA.le⟩
   rintro _ dh ⟨bj,rfl,bk,m⟩
   refine qe_seq ?_
   obtain⟨aE,cc,cd⟩:=ob bU
   refine wc_cutg (fun E' w'=>∃ak am an ao ap aq ar au aw aB,E'=[(1,V6 q1),(2,pt ac),(4,pt o),(6,pt q),(7,.bool aE.1),(8,V6 l.2.1),(9,pt aD)]∧SH w K [] w' aB [obj ac [V3 A a b,V3 B c d,V3 C f i] 36,obj o [V3 none 0 0,V3 none 0 0,V3 none 0 0] 36,obj q [V3 U V W,V3 X Y aa,V3 s x y] 36,tail (V3 s x y) 73 3,obj aD [V3 ak am an,V3 ao ap aq,V3 ar au aw] 73]∧KLe bj aB∧SliceAt tGDoc aB ak am an aE.2.Seg.Docs∧SliceAt tGEntry aB ao ap aq aE.2.Seg.Entries∧SliceAt tInt aB ar au aw aE.2.Dead) ?_ ?_
   ·refine wcc cc u (fun ce aT=>?_) (fun ce aT=>?_)
    ·refine sr (lv (r_t u) (nq (wc_region (b0 tInt underlying71 tf3 bk fun di dj dk aK cf bl=>(fl ff73_1 u tf71 m5 bl u ?_)))))
     obtain⟨dl,cg,ch⟩:=ob aT
     refine lp underlying71 tf3 cf (aQ.mono (m.trans aK)) cg bl fun dm dn dp dq dr aU cj bm=>(mv u ?_)
     obtain⟨dt,ck,cl⟩:=ob ch
     refine lk co180 (ok_spec_l8Put F bm.enter0 cj aO ck) ?_
     rintro du dv ⟨aV,aW,aX,cm,rfl,aL,cn⟩
     have cp:=(bm.c0 aL).t6
     refine fa ff73_1 u (ls [V3 D G H,V3 I J O,V3 aV aW aX] (V3 aV aW aX) tf71 cp.f5 fun dw cq=>(wl_nil ?_))
     cases oi cl
     exact qd ⟨D,G,H,I,J,O,aV,aW,aX,cm,u,cq.f5.f5.f5.f5.s,((aK.trans aU).trans aL.le),(SliceAt.mono (((m.trans aK).trans aU).trans aL.le) aH),(SliceAt.mono (((m.trans aK).trans aU).trans aL.le) aI),cn⟩
    refine wc_skip ?_
    cases oi aT
    exact qd ⟨D,G,H,I,J,O,ax,ay,az,bj,u,bk,kr,(aH.mono m),(aI.mono m),(aQ.mono m)⟩
   rintro _ dx ⟨ak,am,an,ao,ap,aq,ar,au,aw,aB,rfl,aY,aM,cr,ct,cu⟩
   refine qe_seq (wc_region (fl ff36_1 u tf34 m2 aY u (lv (rv_loadmS (ds:=[V3 ak am an,V3 ao ap aq,V3 ar au aw]) tf73 u m4 aY u u) (lb tGLive (.agg #[V3 ak am an,V3 ao ap aq,V3 ar au aw]) [V3 ak am an,V3 ao ap aq,V3 ar au aw] aE.2 underlying34 tf73 ⟨ak,am,an,ao,ap,aq,ar,au,aw,u,cr,ct,cu⟩ aY fun dy dz dA aN cv cw=>?_))))
   obtain⟨dB,cx,cy⟩:=ob cd
   refine lp underlying34 tf73 (bh.mono ((m.trans aM).trans aN)) cv cx cw.f4 fun aZ ba bb dC cz bc cA cB=>(fa ff36_1 u (ls [V3 U V W,V3 X Y aa,V3 aZ ba bb] (V3 aZ ba bb) tf34 cB.f4 fun dD cC=>(nb (qe_seq (wc_region (mv u (lv (rv_add u u) (av u (wl_nil ?_)))))))))
   cases oi cy
   exact qd ⟨_,u,U,V,W,X,Y,aa,aZ,ba,bb,cz,u,cC.f1.f1.f4.f4.s,((((aG.trans m).trans aM).trans aN).trans bc),(w64_rng _),(SliceAt.mono (((m.trans aM).trans aN).trans bc) bf),(SliceAt.mono (((m.trans aM).trans aN).trans bc) bg),cA⟩
  refine wc_exit (qe_then_exit (qe_then_exit ?_))
  cases oi aP
  cases bH _ u
  refine qe_block_eq ?_
  cases oi bE
  exact qd ⟨U,V,W,X,Y,aa,s,x,y,ab,u,aC.s,aG,bf,bg,bh⟩
 rintro _ dE ⟨ad,ae,af,ag,ah,ai,R,S,T,aj,rfl,bn,dF,cD,cE,cF⟩
 refine qr (lv (rv_loadmS (ds:=[V3 ad ae af,V3 ag ah ai,V3 R S T]) tf36 u m1 bn u u) (mv u (lw [V3 ad ae af,V3 ag ah ai,V3 R S T] tf36 bn fun dG bo=>(av u (nq (wc_ret ?_))))))
 cases oi bC
 exact qe_ret (vs:=[_,_]) results114 ⟨⟨_,_,u,run_loadVar_at tf36 (cs:=[V3 ad ae af,V3 ag ah ai,V3 R S T]) (fun j c e=>by rw [Nat.zero_add,bo.mem_obj m0];exact e) (.inl ⟨u,u,u⟩)⟩,u,trivial⟩ ⟨ad,ae,af,ag,ah,ai,R,S,T,aj,u,bo.s,cD,cE,cF⟩

theorem ok_spec_l18Full {q0:GIndex}{r:GIndex}(hS:SH w K [] w K [])(aN:SliceAt tStr K A a b q0.Conf.Stops)(aO:SliceAt tGSyn K B c d q0.Conf.Syns)(ap:SliceAt tGLive K C f i q0.Segs)(hm:M.spec_l18Full F q0=some r):
  Calls prog 115 #[.agg #[V3 A a b,V3 B c d,V3 C f i]] w fun e w'=>∃a_1 n_2 c_3 a_5 n_6 c_7 a_9 n_10 c_11 K',e= .returned (.agg #[V3 a_1 n_2 c_3,V3 a_5 n_6 c_7,V3 a_9 n_10 c_11])∧SH w K [] w' K' [tail (V3 a_9 n_10 c_11) 73 3]∧SliceAt tStr K' a_1 n_2 c_3 r.Conf.Stops∧SliceAt tGSyn K' a_5 n_6 c_7 r.Conf.Syns∧SliceAt tGLive K' a_9 n_10 c_11 r.Segs:=by
 rw [M.spec_l18Full] at hm
 refine ci func115 u ntmps115 (sr (bx u hS fun aq ck aP=>?_))
 have aQ:SH _ _ _ _ _ [obj aq [V3 A a b,V3 B c d,V3 C f i] 36]:=aP
 refine al tf36 aQ fun ad cl aR=>?_
 have aI:SH _ _ _ _ _ [obj ad [V3 none 0 0,V3 none 0 0,V3 none 0 0] 36,_]:=aR
 refine nr (fa ff36_0 u (lv (rv_loadmS (ds:=[V3 A a b,V3 B c d]) tf33 u m1 aI u u) (lv (rv_build (cs:=#[V3 A a b,V3 B c d,V3 none 0 0]) sp36 tf36 u (by kernel_rfl)) (al tf36 aI fun U cm aS=>?_))))
 have aT:SH _ _ _ _ _ [obj U [V3 none 0 0,V3 none 0 0,V3 none 0 0] 36,_,_]:=aS
 refine lw [V3 A a b,V3 B c d,V3 none 0 0] tf36 aT fun cn aU=>(nsr (lv (r_0 u) (nq ?_)))
 obtain⟨ax,aV,aW⟩:=ob hm
 refine wc_cutg (fun E' w'=>∃V W X Y aa ab y D G H,E'=[(2,pt ad),(3,pt U)]∧SH w K [] w' H [obj ad [V3 none 0 0,V3 none 0 0,V3 none 0 0] 36,obj U [V3 V W X,V3 Y aa ab,V3 y D G] 36,tail (V3 y D G) 73 3]∧KLe K H∧SliceAt tStr H V W X ax.Conf.Stops∧SliceAt tGSyn H Y aa ab ax.Conf.Syns∧SliceAt tGLive H y D G ax.Segs) ?_ ?_
 ·refine wc_block ?_
  obtain⟨cp,aX,aY⟩:=ob aV
  have aZ:=aU.nil 73 3
  refine qw (fun (ac:Int×GIndex) E' w'=>∃l m o q s x I J O R,E'=[(1,pt aq),(2,pt ad),(3,pt U),(4,V6 ac.1)]∧SH w K [] w' R [obj aq [V3 A a b,V3 B c d,V3 C f i] 36,obj ad [V3 none 0 0,V3 none 0 0,V3 none 0 0] 36,obj U [V3 l m o,V3 q s x,V3 I J O] 36,tail (V3 I J O) 73 3]∧KLe K R∧rng64 ac.1∧SliceAt tStr R l m o ac.2.Conf.Stops∧SliceAt tGSyn R q s x ac.2.Conf.Syns∧SliceAt tGLive R I J O ac.2.Segs) aX ⟨A,a,b,B,c,d,none,0,0,K,u,aZ.f1.f2.f3,kr,d_0,aN,aO,(SliceAt.nil _ _)⟩ ?_
  rintro ac _ cq cr ba bb ⟨l,m,o,q,s,x,I,J,O,R,rfl,ay,S,ct,az,aA,aB⟩
  refine wc_seq (sr (mv u (fl ff36_1 u tf34 m0 ay u (lv (rv_len underlying34 u (ap.mono S)) (lv (rv_lss u u) (nq (wcc ba u (fun bc aC=>?_) (fun bc aC=>?_))))))))
  ·refine wc_skip (qs (wc_block (wc_seq (wc_quiet mixed (by kernel_rfl) ay (kv (rv_fieldAddr ff36_1 u) (kh (rq_loadm1 tf34 u m0 u) (km u ?_)))))))
   obtain⟨cu,bd,be⟩:=ob aC
   refine ki underlying34 tf73 (ap.mono S) bd fun bf bg cv bh bi=>?_
   obtain⟨bj,bk,bl,bm,bn,bo,bp,bq,br,rfl,cw,cx,bs⟩:=bh
   have bu:AtK _ bf bg [V3 bj bk bl,V3 bm bn bo,V3 bp bq br]:=bi
   refine kv (rv_fieldAddr ff73_1 u) (kh (rq_load1 tf71 u (bu 2 _ u)) (kv (rv_len underlying71 u bs) (kv (rv_fieldAddr ff36_1 u) (kh (rq_loadm1 tf34 u m0 u) (km u ?_)))))
   obtain⟨cy,bv,bz⟩:=ob be
   refine ki underlying34 tf73 (ap.mono S) bv fun bA bB cz bC bD=>?_
   obtain⟨bE,bF,bG,bH,bI,bJ,bK,bL,bM,rfl,bN,cA,cB⟩:=bC
   have bO:AtK _ bA bB [V3 bE bF bG,V3 bH bI bJ,V3 bK bL bM]:=bD
   refine kv (rv_fieldAddr ff73_0 u) (kv (rv_fieldAddr ff46_0 u) (kh (rq_load1 tf43 u (bO 0 _ u)) (kv (rv_len underlying43 u bN) (kv (rv_lss u u) (wq_nil ?_)))))
   rintro cC ⟨aJ,aK,k⟩
   refine qe_seq (wcc bz u (fun bP aD=>?_) (fun bP aD=>?_))
   ·have ar:=aK.drew
    refine wh1 (fun w'=>Holds aJ w'∧HasObj aq [V3 A a b,V3 B c d,V3 C f i] w') (fun w'=>HasObj U [V3 l m o,V3 q s x,V3 I J O] w') 10 [(1,8),(1,9),(1,10),(8,9),(8,10),(9,10)] mixed ⟨ar.hasK kr,ar.hasObj m0⟩ (fun _=>ar.hasObj (.tail _ (.tail _ (.head _)))) (gt (rv_fieldAddr ff36_1 u) (gf (fun _ h=>rh_loadm1 tf34 u u h) (gt (rv_fieldAddr ff36_1 u) (gh (fun _ h=>rh_loadm1 tf34 u u h.2) (gt (rv_move u) ?_)))))
    obtain⟨bQ,bR,bS⟩:=ob aD
    refine gi underlying34 tf73 (ap.mono (S.trans k)) bR fun bT bU cD bV bW=>?_
    obtain⟨ae,af,ag,ah,ai,aj,ak,am,an,rfl,bX,bY,bZ⟩:=bV
    have ca:AtK _ bT bU [V3 ae af ag,V3 ah ai aj,V3 ak am an]:=bW
    refine gh (fun _ h=>rh_loadS (cs:=[V3 ae af ag,V3 ah ai aj,V3 ak am an]) tf73 u ca u h.1) (gn (lb tGLive (.agg #[V3 ae af ag,V3 ah ai aj,V3 ak am an]) [V3 ae af ag,V3 ah ai aj,V3 ak am an] bQ underlying34 tf73 ⟨ae,af,ag,ah,ai,aj,ak,am,an,u,bX,bY,bZ⟩ ar fun cE cF cG T cb au=>(wl_nil (qh ⟨au.hasK T,au.hasObj m1⟩ (fun _=>au.hasObj (.tail _ (.tail _ (.tail _ (.head _))))) (gn ?_)))))
    obtain⟨cH,cc,cd⟩:=ob bS
    refine lp underlying34 tf73 (aB.mono (k.trans T)) cb cc au.f4 fun aE aF aG cI ce ao cf aw=>(wl_nil (qh ⟨aw.hasK (T.trans ao),aw.hasObj m2⟩ (fun _=>aw.hasObj (.tail _ (.tail _ (.tail _ (.tail _ (.head _)))))) (gt (rv_fieldAddr ff36_1 u) (gn (ls [V3 l m o,V3 q s x,V3 aE aF aG] (V3 aE aF aG) tf34 aw.f4 fun cJ aH=>(wl_nil (qh ⟨aH.hasK (T.trans ao),aH.hasObj m3⟩ (fun h=>nomatch h) (gd' (qe_block (qe_seq (wc_region ?_)))))))))))
    refine mv u (lv (rv_add u u) (av u (wl_nil ?_)))
    cases oi cd
    exact qd ⟨_,u,l,m,o,q,s,x,aE,aF,aG,ce,u,aH.f1.f1.f4.f4.s,(((S.trans k).trans T).trans ao),(w64_rng _),(az.mono ((k.trans T).trans ao)),(aA.mono ((k.trans T).trans ao)),cf⟩
   refine wc_skip (qe_block (qe_seq (wc_region (mv u (lv (rv_add u u) (av u (wl_nil ?_)))))))
   cases oi aD
   exact qd ⟨_,u,l,m,o,q,s,x,I,J,O,aJ,u,aK,(S.trans k),(w64_rng _),(az.mono k),(aA.mono k),(aB.mono k)⟩
  refine wc_exit (qe_then_exit (qe_then_exit ?_))
  cases oi aC
  cases bb _ u
  refine qe_block_eq ?_
  cases oi aY
  exact qd ⟨l,m,o,q,s,x,I,J,O,R,u,ay.s,S,az,aA,aB⟩
 rintro _ cK ⟨V,W,X,Y,aa,ab,y,D,G,H,rfl,aL,cL,cg,ch,cj⟩
 refine qr (lv (rv_loadmS (ds:=[V3 V W X,V3 Y aa ab,V3 y D G]) tf36 u m1 aL u u) (lw [V3 V W X,V3 Y aa ab,V3 y D G] tf36 aL fun cM aM=>(nq (wc_ret ?_))))
 cases oi aW
 exact ez results115 tf36 aM m0 ⟨V,W,X,Y,aa,ab,y,D,G,H,u,aM.s,cg,ch,cj⟩

theorem ok_spec_IndexDrop {q0:GIndex}{q1:Int}{r:GIndex×Bool}(hS:SH w K [] w K [])(R:SliceAt tStr K A a b q0.Conf.Stops)(S:SliceAt tGSyn K B c d q0.Conf.Syns)(T:SliceAt tGLive K C f i q0.Segs)(ai:rng64 q1)(hm:M.spec_IndexDrop F q0 q1=some r):
  Calls prog 52 #[.agg #[V3 A a b,V3 B c d,V3 C f i],V6 q1] w fun e w'=>∃a_1 n_2 c_3 a_5 n_6 c_7 a_9 n_10 c_11 K',e= .returned (.tuple #[.agg #[V3 a_1 n_2 c_3,V3 a_5 n_6 c_7,V3 a_9 n_10 c_11],.bool r.2])∧SH w K [] w' K' [tail (V3 a_9 n_10 c_11) 73 3]∧SliceAt tStr K' a_1 n_2 c_3 r.1.Conf.Stops∧SliceAt tGSyn K' a_5 n_6 c_7 r.1.Conf.Syns∧SliceAt tGLive K' a_9 n_10 c_11 r.1.Segs:=by
 rw [M.spec_IndexDrop] at hm
 refine ci func52 u ntmps52 (sr (bx u hS fun aj aW ak=>?_))
 have am:SH _ _ _ _ _ [obj aj [V3 A a b,V3 B c d,V3 C f i] 36]:=ak
 refine al tf36 am fun an aX ao=>?_
 have m:SH _ _ _ _ _ [obj an [V3 none 0 0,V3 none 0 0,V3 none 0 0] 36,_]:=ao
 refine lv (r_f u) (nsr (lv (rv_loadmS (ds:=[V3 A a b,V3 B c d,V3 C f i]) tf36 u m1 m u u) ?_))
 obtain⟨aY,ap,aq⟩:=ob hm
 refine lk co57 (ok_spec_l18Ok F m.enter0 R S T ap) ?_
 rintro aZ ba ⟨ar,rfl,k⟩
 have l:=(m.c0 k).t2
 refine lv (rv_not u) (nq (wcc aq u (fun au o=>?_) (fun au o=>?_)))
 ·refine sr (lv (rv_build (cs:=#[V3 none 0 0,V3 none 0 0,V3 none 0 0]) sp36 tf36 u (by kernel_rfl)) (lw [V3 none 0 0,V3 none 0 0,V3 none 0 0] tf36 l fun bb U=>(lv (r_f u) (nq (rr ?_)))))
  cases oi o
  have aw:=U.nil 73 3
  exact qe_ret (vs:=[_,_]) results52 ⟨⟨_,_,u,run_loadVar_at tf36 (cs:=[V3 none 0 0,V3 none 0 0,V3 none 0 0]) (fun j c e=>by rw [Nat.zero_add,U.mem_obj m0];exact e) (.inl ⟨u,u,u⟩)⟩,u,trivial⟩ ⟨none,0,0,none,0,0,none,0,0,ar,u,aw.s,(SliceAt.nil _ _),(SliceAt.nil _ _),(SliceAt.nil _ _)⟩
 refine wc_skip (qr (lv (rv_loadmS (ds:=[V3 A a b,V3 B c d,V3 C f i]) tf36 u m1 l u u) ?_))
 obtain⟨bc,ax,ay⟩:=ob o
 refine lk co110 (ok_spec_l18Copy F l.enter0 (R.mono k.le) (S.mono k.le) (T.mono k.le) ax) ?_
 rintro bd be ⟨bf,bg,bh,bi,bj,bk,bl,bm,bn,cs54,bo,rfl,az,aA,aB,hrow55,hm56⟩
 have aC:=(l.c0 az).t3
 obtain⟨bp,V,aD,W⟩:=SH.freezeI aC hrow55 hm56
 refine mv u ?_
 obtain⟨bq,aE,aF⟩:=ob ay
 refine lk co114 (ok_spec_l18Gone F W.enter0 (aA.mono V) (aB.mono V) aD ai aE) ?_
 rintro br bs ⟨X,Y,aa,ab,ac,ad,ae,af,ag,bu,rfl,aG,aH,aI,aJ⟩
 have aK:=(W.c0 aG).t4
 refine mv u (lv (rv_extract u u) (lv (rv_extract u u) (al tf36 aK fun aL bv aM=>?_)))
 have aN:SH _ _ _ _ _ [obj aL [V3 none 0 0,V3 none 0 0,V3 none 0 0] 36,_,_,_,_]:=aM
 refine lw [V3 X Y aa,V3 ab ac ad,V3 ae af ag] tf36 aN fun bz q=>(av u (nr (lv (rv_loadmS (ds:=[V3 X Y aa,V3 ab ac ad,V3 ae af ag]) tf36 u m0 q u u) ?_)))
 obtain⟨bA,aO,aP⟩:=ob aF
 refine lk co115 (ok_spec_l18Full F q.enter0 aH aI aJ aO) ?_
 rintro bB bC ⟨s,x,y,D,G,H,I,J,O,aQ,rfl,aR,aS,aT,aU⟩
 have aV:=(q.c0 aR).t6
 refine mv u (lw [V3 s x y,V3 D G H,V3 I J O] tf36 aV.f4 fun bD ah=>(av u (nq (wc_ret ?_))))
 cases oi aP
 exact qe_ret (vs:=[_,_]) results52 ⟨⟨_,_,u,run_loadVar_at tf36 (cs:=[V3 s x y,V3 D G H,V3 I J O]) (fun j c e=>by rw [Nat.zero_add,ah.mem_obj m0];exact e) (.inl ⟨u,u,u⟩)⟩,u,trivial⟩ ⟨s,x,y,D,G,H,I,J,O,aQ,u,ah.s,aS,aT,aU⟩

theorem ok_spec_IndexAdd {q0:GIndex}{q1:List GDoc}{r:GIndex×Bool}(hS:SH w K [] w K [])(aG:SliceAt tStr K A a b q0.Conf.Stops)(aH:SliceAt tGSyn K B c d q0.Conf.Syns)(aR:SliceAt tGLive K C f i q0.Segs)(aI:SliceAt tGDoc K D k l q1)(hm:M.spec_IndexAdd F q0 q1=some r):
  Calls prog 55 #[.agg #[V3 A a b,V3 B c d,V3 C f i],V3 D k l] w fun e w'=>∃a_1 n_2 c_3 a_5 n_6 c_7 a_9 n_10 c_11 K',e= .returned (.tuple #[.agg #[V3 a_1 n_2 c_3,V3 a_5 n_6 c_7,V3 a_9 n_10 c_11],.bool r.2])∧SH w K [] w' K' [tail (V3 a_9 n_10 c_11) 73 3]∧SliceAt tStr K' a_1 n_2 c_3 r.1.Conf.Stops∧SliceAt tGSyn K' a_5 n_6 c_7 r.1.Conf.Syns∧SliceAt tGLive K' a_9 n_10 c_11 r.1.Segs:=by
 rw [M.spec_IndexAdd] at hm
 refine ci func55 u ntmps55 (sr (bx u hS fun y fh db=>?_))
 have dc:SH _ _ _ _ _ [obj y [V3 A a b,V3 B c d,V3 C f i] 36]:=db
 refine al tf36 dc fun H fi dd=>?_
 have bl:SH _ _ _ _ _ [obj H [V3 none 0 0,V3 none 0 0,V3 none 0 0] 36,_]:=dd
 refine lv (r_f u) (nsr (lv (rv_loadmS (ds:=[V3 A a b,V3 B c d,V3 C f i]) tf36 u m1 bl u u) ?_))
 obtain⟨fj,de,df⟩:=ob hm
 refine lk co57 (ok_spec_l18Ok F bl.enter0 aG aH aR de) ?_
 rintro fk fm ⟨cb,rfl,m⟩
 have bm:=(bl.c0 m).t2
 refine lv (rv_not u) (nq (wcc df u (fun dg bn=>?_) (fun dg bn=>?_)))
 ·refine sr (lv (rv_build (cs:=#[V3 none 0 0,V3 none 0 0,V3 none 0 0]) sp36 tf36 u (by kernel_rfl)) (lw [V3 none 0 0,V3 none 0 0,V3 none 0 0] tf36 bm fun fn cc=>(lv (r_f u) (nq (rr ?_)))))
  cases oi bn
  have dh:=cc.nil 73 3
  exact qe_ret (vs:=[_,_]) results55 ⟨⟨_,_,u,run_loadVar_at tf36 (cs:=[V3 none 0 0,V3 none 0 0,V3 none 0 0]) (fun j c e=>by rw [Nat.zero_add,cc.mem_obj m0];exact e) (.inl ⟨u,u,u⟩)⟩,u,trivial⟩ ⟨none,0,0,none,0,0,none,0,0,cb,u,dh.s,(SliceAt.nil _ _),(SliceAt.nil _ _),(SliceAt.nil _ _)⟩
 refine wc_skip (qs (wc_seq ?_))
 obtain⟨di,dj,dk⟩:=ob bn
 refine wc_cutg (IV w K [] cb [(1,V3 D k l),(2,pt y),(4,pt H),(21,.bool di)] [obj y [V3 A a b,V3 B c d,V3 C f i] 36,obj H [V3 none 0 0,V3 none 0 0,V3 none 0 0] 36]) ?_ ?_
 ·refine wc_region (mv u ?_)
  obtain⟨fo,dl,dm⟩:=ob dj
  refine lk co67 (ok_spec_l6Docs F bm.enter0 (aI.mono m.le) dl) ?_
  rintro fp fq ⟨cd,rfl,aS⟩
  have ce:=(bm.c0 aS).t2
  refine lv (rv_not u) (mv u (bt dm (fun I bo=>?_) (fun I bo=>?_)))
  ·refine lu I (lu I (lu I (lv (p_t u I u) (wl_nil ?_))))
   cases oi bo
   exact qd ⟨cd,u,ce.f1,aS.le⟩
  refine lg I (rv_move u) (lg I (rv_len underlying43 u (aI.mono (m.le.trans aS.le))) (lg I (rv_eql u u) (lv (rv_pick_f u I u) (wl_nil ?_))))
  cases oi bo
  exact qd ⟨cd,u,ce.f1,aS.le⟩
 rintro _ fr ⟨fs,rfl,ax,o⟩
 refine qe_seq (wcc dk u (fun dn bp=>?_) (fun dn bp=>?_))
 ·refine sr (lv (rv_loadmS (ds:=[V3 A a b,V3 B c d,V3 C f i]) tf36 u m0 ax u u) ?_)
  obtain⟨ft,dp,dq⟩:=ob bp
  refine lk co110 (ok_spec_l18Copy F ax.enter0 (aG.mono (m.le.trans o)) (aH.mono (m.le.trans o)) (aR.mono (m.le.trans o)) dp) ?_
  rintro fu fv ⟨bq,br,bs,bu,bv,bz,bA,bB,bC,cs78,fw,rfl,dr,dt,du,hrow79,hm80⟩
  have dv:=(ax.c0 dr).t3
  obtain⟨dw,cf,dx,dy⟩:=SH.freezeI dv hrow79 hm80
  refine lw [V3 bq br bs,V3 bu bv bz,V3 bA bB bC] tf36 dy.f2 fun fx cg=>(lv (r_f u) (nq (rr ?_)))
  cases oi dq
  exact qe_ret (vs:=[_,_]) results55 ⟨⟨_,_,u,run_loadVar_at tf36 (cs:=[V3 bq br bs,V3 bu bv bz,V3 bA bB bC]) (fun j c e=>by rw [Nat.zero_add,cg.mem_obj m0];exact e) (.inl ⟨u,u,u⟩)⟩,u,trivial⟩ ⟨bq,br,bs,bu,bv,bz,bA,bB,bC,dw,u,cg.s,(dt.mono cf),(du.mono cf),dx⟩
 refine wc_skip (qr (lv (rv_loadmS (ds:=[V3 A a b,V3 B c d,V3 C f i]) tf36 u m0 ax u u) ?_))
 obtain⟨fy,dz,dA⟩:=ob bp
 refine lk co110 (ok_spec_l18Copy F ax.enter0 (aG.mono (m.le.trans o)) (aH.mono (m.le.trans o)) (aR.mono (m.le.trans o)) dz) ?_
 rintro fz fA ⟨ch,cj,ck,cl,cm,cn,cp,cq,cr,cs108,fB,rfl,J,dB,dC,hrow109,hm110⟩
 have dD:=(ax.c0 J).t3
 obtain⟨bD,G,dE,dF⟩:=SH.freezeI dD hrow109 hm110
 refine al tf36 dF fun O fC dG=>?_
 have dH:SH _ _ _ _ _ [obj O [V3 none 0 0,V3 none 0 0,V3 none 0 0] 36,_,_,_]:=dG
 refine lw [V3 ch cj ck,V3 cl cm cn,V3 cp cq cr] tf36 dH fun fD dI=>(nsr (lv (r_0 u) (nq ?_)))
 obtain⟨bE,dJ,dK⟩:=ob dA
 refine wc_cutg (fun E' w'=>∃aT aU aV aW aX aY aJ aK aL ay,E'=[(1,V3 D k l),(2,pt y),(4,pt H),(6,pt O)]∧SH w K [] w' ay [obj y [V3 A a b,V3 B c d,V3 C f i] 36,obj H [V3 none 0 0,V3 none 0 0,V3 none 0 0] 36,obj O [V3 aT aU aV,V3 aW aX aY,V3 aJ aK aL] 36,tail (V3 aJ aK aL) 73 3]∧KLe bD ay∧SliceAt tStr ay aT aU aV bE.Conf.Stops∧SliceAt tGSyn ay aW aX aY bE.Conf.Syns∧SliceAt tGLive ay aJ aK aL bE.Segs) ?_ ?_
 ·refine wc_block ?_
  obtain⟨fE,dL,dM⟩:=ob dJ
  refine qw (fun (ad:Int×GIndex) E' w'=>∃ae af ag ah ai aj R S T U,E'=[(1,V3 D k l),(2,pt y),(4,pt H),(6,pt O),(7,V6 ad.1)]∧SH w K [] w' U [obj y [V3 A a b,V3 B c d,V3 C f i] 36,obj H [V3 none 0 0,V3 none 0 0,V3 none 0 0] 36,obj O [V3 ae af ag,V3 ah ai aj,V3 R S T] 36,tail (V3 R S T) 73 3]∧KLe bD U∧rng64 ad.1∧SliceAt tStr U ae af ag ad.2.Conf.Stops∧SliceAt tGSyn U ah ai aj ad.2.Conf.Syns∧SliceAt tGLive U R S T ad.2.Segs) dL ⟨ch,cj,ck,cl,cm,cn,cp,cq,cr,bD,u,dI.f1.f1.f3.f3,kr,d_0,(dB.mono G),(dC.mono G),dE⟩ ?_
  rintro ad _ fF fG dN dO ⟨ae,af,ag,ah,ai,aj,R,S,T,U,rfl,ct,aZ,fH,bF,bG,bH⟩
  refine wc_seq (sr (mv u (mv u (lv (rv_len underlying43 u (SliceAt.mono ((((m.le.trans o).trans J.le).trans G).trans aZ) aI)) (lv (rv_lss u u) (nq (wcc dN u (fun dP bI=>?_) (fun dP bI=>?_))))))))
  ·refine wc_skip (qs (wc_block (wc_seq ?_)))
   obtain⟨bJ,dQ,dR⟩:=ob bI
   refine wc_cutg (fun E' w'=>∃bK az aA aB aC aD aE ak am an ao,E'=[(1,V3 D k l),(2,pt y),(4,pt H),(6,pt O),(7,V6 ad.1),(8,pt bK)]∧SH w K [] w' ao [obj bK [V3 az aA aB,V3 aC aD aE,V3 ak am an] 36,tail (V3 ak am an) 73 3,obj y [V3 A a b,V3 B c d,V3 C f i] 36,obj H [V3 none 0 0,V3 none 0 0,V3 none 0 0] 36,obj O [V3 ae af ag,V3 ah ai aj,V3 R S T] 36,tail (V3 R S T) 73 3]∧KLe U ao∧SliceAt tStr ao az aA aB bJ.Conf.Stops∧SliceAt tGSyn ao aC aD aE bJ.Conf.Syns∧SliceAt tGLive ao ak am an bJ.Segs) ?_ ?_
   ·obtain⟨dS,dT,dU⟩:=ob dQ
    obtain⟨fI,cu,cv⟩:=ob dU
    have aM:=ct.drew
    refine j_0 (fun w'=>Holds U w'∧HasObj O [V3 ae af ag,V3 ah ai aj,V3 R S T] w') 13 [] mixed ⟨aM.hasK kr,aM.hasObj m2⟩ (jh 0 u (fun _ h=>rh_loadmS (ds:=[V3 ae af ag,V3 ah ai aj,V3 R S T]) tf36 u u u h.2) (jv 1 u (rv_move u) (jv 2 u (rv_move u) (ji 3 u underlying43 tf77 (SliceAt.mono ((((m.le.trans o).trans J.le).trans G).trans aZ) aI) dT fun dV dW fJ dX dY=>?_))))
    obtain⟨dZ,ea,eb,ec,ed,ee,rfl,cw,fK,fL⟩:=dX
    have ef:AtK _ dV dW [V6 dS.Id,V3 dZ ea eb,V3 ec ed ee]:=dY
    refine jv 4 u (rv_fieldAddr ff77_0 u) (jh 5 u (fun _ h=>rh_load1 tf3 u (ef 0 _ u) h.1) (j2 6 10 u u ?_ ?_))
    ·refine lk co114 (ok_spec_l18Gone F aM.enter0 bF bG bH cw cu) ?_
     rintro fM fN ⟨cx,cy,cz,cA,cB,cC,cD,cE,cF,eg,rfl,aN,eh,ei,ej⟩
     have bL:=(aM.c0 aN).t5
     refine j_o ⟨bL.hasK aN.le,bL.hasObj m3⟩ (jv 7 u (rv_move u) (jv 8 u (rv_extract u u) (jv 9 u (rv_extract u u) (j1 10 u (al tf36 bL fun cG fO ek=>?_)))))
     have bM:SH _ _ _ _ _ [obj cG [V3 none 0 0,V3 none 0 0,V3 none 0 0] 36,_,_,_,_,_]:=ek
     refine j_o ⟨bM.hasK aN.le,bM.hasObj m4⟩ (j1 11 u (lw [V3 cx cy cz,V3 cA cB cC,V3 cD cE cF] tf36 bM fun fP bN=>(j_o ⟨bN.hasK aN.le,bN.hasObj m4⟩ (jv 12 u (rv_assign u) (jd ?_)))))
     cases oi cv
     exact qd ⟨cG,cx,cy,cz,cA,cB,cC,cD,cE,cF,eg,u,bN,aN.le,eh,ei,ej⟩
    refine al tf36 aM fun cH fQ el=>?_
    have ba:SH _ _ _ _ _ [obj cH [V3 none 0 0,V3 none 0 0,V3 none 0 0] 36,_,_,_,_]:=el
    refine j_o ⟨ba.hasK kr,ba.hasObj m3⟩ (j1 6 u (lk co114 (ok_spec_l18Gone F ba.enter0 bF bG bH cw cu) ?_))
    rintro fR fS ⟨cI,cJ,cK,cL,cM,cN,cO,cP,cQ,em,rfl,bb,en,eo,ep⟩
    have bO:=(ba.c0 bb).t6
    refine j_o ⟨bO.hasK bb.le,bO.hasObj m4⟩ (jv 7 u (rv_move u) (jv 8 u (rv_extract u u) (jv 9 u (rv_extract u u) (j1 11 u (lw [V3 cI cJ cK,V3 cL cM cN,V3 cO cP cQ] tf36 bO.f1 fun fT bP=>(j_o ⟨bP.hasK bb.le,bP.hasObj m4⟩ (jv 12 u (rv_assign u) (jd ?_))))))))
    cases oi cv
    exact qd ⟨cH,cI,cJ,cK,cL,cM,cN,cO,cP,cQ,em,u,bP,bb.le,en,eo,ep⟩
   rintro _ fU ⟨bK,az,aA,aB,aC,aD,aE,ak,am,an,ao,rfl,cR,eq,es,et,eu⟩
   refine qe_seq (wc_region (lv (rv_loadmS (ds:=[V3 az aA aB,V3 aC aD aE,V3 ak am an]) tf36 u m0 cR u u) (lw [V3 az aA aB,V3 aC aD aE,V3 ak am an] tf36 cR.f4 fun fV ev=>(nb (qe_seq (wc_region (mv u (lv (rv_add u u) (av u ?_)))))))))
   refine wl_nil ?_
   cases oi dR
   exact qd ⟨_,u,az,aA,aB,aC,aD,aE,ak,am,an,ao,u,ev.f2.f1.f4.f4.s,(aZ.trans eq),(w64_rng _),es,et,eu⟩
  refine wc_exit (qe_then_exit (qe_then_exit ?_))
  cases oi bI
  cases dO _ u
  refine qe_block_eq ?_
  cases oi dM
  exact qd ⟨ae,af,ag,ah,ai,aj,R,S,T,U,u,ct,aZ,bF,bG,bH⟩
 rintro _ fW ⟨aT,aU,aV,aW,aX,aY,aJ,aK,aL,ay,rfl,bQ,aF,ew,ex,eA⟩
 refine qr (lv (rv_loadmS (ds:=[V3 aT aU aV,V3 aW aX aY,V3 aJ aK aL]) tf36 u m2 bQ u u) ?_)
 obtain⟨eB,eC,eD⟩:=ob dK
 refine lk co115 (ok_spec_l18Full F bQ.enter0 ew ex eA eC) ?_
 rintro fX fY ⟨W,X,Y,aa,ab,ac,cS,cT,cU,eE,rfl,ap,cV,cW,eF⟩
 have eG:=(bQ.c0 ap).t5
 refine lw [V3 W X Y,V3 aa ab ac,V3 cS cT cU] tf36 eG.f3 fun fZ eH=>(ns ?_)
 have aO:=eH.drew
 refine wh1 (fun w'=>Holds eE w'∧HasObj y [V3 A a b,V3 B c d,V3 C f i] w') (fun w'=>HasObj O [V3 W X Y,V3 aa ab ac,V3 cS cT cU] w') 10 [(1,8),(1,9),(1,10),(8,9),(8,10),(9,10)] mixed ⟨aO.hasK kr,aO.hasObj m2⟩ (fun _=>aO.hasObj (.head _)) (gt (rv_fieldAddr ff36_1 u) (gf (fun _ h=>rh_loadm1 tf34 u u h) (gt (rv_fieldAddr ff36_0 u) (gh (fun _ h=>rh_loadmS (ds:=[V3 A a b,V3 B c d]) tf33 u u u h.2) (gt (rv_move u) (gn ?_))))))
 obtain⟨eI,eJ,eK⟩:=ob eD
 refine lk co68 (ok_spec_l7Of F aO.enter0 (SliceAt.mono (((((m.le.trans o).trans J.le).trans G).trans aF).trans ap.le) aG) (SliceAt.mono (((((m.le.trans o).trans J.le).trans G).trans aF).trans ap.le) aH) (SliceAt.mono (((((m.le.trans o).trans J.le).trans G).trans aF).trans ap.le) aI) eJ) ?_
 rintro ga gb ⟨bc,bd,be,bf,bg,bh,cs347,gc,rfl,q,eL,hrow348,hm349⟩
 have eM:=(aO.c0 q).t7
 obtain⟨gd,s,eN,bi⟩:=SH.freezeI eM.f1 hrow348 hm349
 refine wl_nil (qh ⟨bi.hasK (q.le.trans s),bi.hasObj m4⟩ (fun _=>bi.hasObj (.tail _ (.tail _ (.head _)))) (gt (rv_build (cs:=#[V3 bc bd be,V3 bf bg bh,V3 none 0 0]) sp73 tf73 u (by kernel_rfl)) (gn (lb tGLive (.agg #[V3 bc bd be,V3 bf bg bh,V3 none 0 0]) [V3 bc bd be,V3 bf bg bh,V3 none 0 0] (GLive.mk eI ([]:List Int)) underlying34 tf73 ⟨bc,bd,be,bf,bg,bh,none,0,0,u,(eL.mono s),eN,(SliceAt.nil _ _)⟩ bi fun ge gg gj x eO bj=>(wl_nil (qh ⟨bj.hasK ((q.le.trans s).trans x),bj.hasObj m5⟩ (fun _=>bj.hasObj (.tail _ (.tail _ (.tail _ (.head _))))) (gn ?_)))))))
 obtain⟨eP,eQ,eR⟩:=ob eK
 refine lp underlying34 tf73 (eF.mono ((q.le.trans s).trans x)) eO eQ bj.f4 fun aq ar au gk gl V cX bk=>(wl_nil (qh ⟨bk.hasK (((q.le.trans s).trans x).trans V),bk.hasObj m5⟩ (fun _=>bk.hasObj (.tail _ (.tail _ (.tail _ (.tail _ (.head _)))))) (gt (rv_fieldAddr ff36_1 u) (gn (ls [V3 W X Y,V3 aa ab ac,V3 aq ar au] (V3 aq ar au) tf34 bk.f4 fun gm aP=>(wl_nil (qh ⟨aP.hasK (((q.le.trans s).trans x).trans V),aP.hasObj m5⟩ (fun h=>nomatch h) (gd' (qs (sr (lv (rv_loadmS (ds:=[V3 W X Y,V3 aa ab ac,V3 aq ar au]) tf36 u m0 aP u u) ?_)))))))))))
 obtain⟨go,eS,eT⟩:=ob eR
 refine lk co57 ((ok_spec_l18Ok F (q0:=(GIndex.mk eB.Conf eP))) aP.enter0 (SliceAt.mono (((q.le.trans s).trans x).trans V) cV) (SliceAt.mono (((q.le.trans s).trans x).trans V) cW) cX eS) ?_
 rintro gp gq ⟨eU,rfl,aw⟩
 have aQ:=(aP.c0 aw).t8
 refine lv (rv_not u) (nq (wcc eT u (fun eV bR=>?_) (fun eV bR=>?_)))
 ·refine sr (lv (rv_loadmS (ds:=[V3 A a b,V3 B c d,V3 C f i]) tf36 u m5 aQ u u) ?_)
  obtain⟨gr,eW,eX⟩:=ob bR
  refine lk co110 (ok_spec_l18Copy F aQ.enter0 (SliceAt.mono ((((((((((m.le.trans o).trans J.le).trans G).trans aF).trans ap.le).trans q.le).trans s).trans x).trans V).trans aw.le) aG) (SliceAt.mono ((((((((((m.le.trans o).trans J.le).trans G).trans aF).trans ap.le).trans q.le).trans s).trans x).trans V).trans aw.le) aH) (SliceAt.mono ((((((((((m.le.trans o).trans J.le).trans G).trans aF).trans ap.le).trans q.le).trans s).trans x).trans V).trans aw.le) aR) eW) ?_
  rintro gv gw ⟨bS,bT,bU,bV,bW,bX,bY,bZ,ca,cs405,gx,rfl,eY,eZ,fb,hrow406,hm407⟩
  have fc:=(aQ.c0 eY).t9
  obtain⟨fd,cY,fe,fg⟩:=SH.freezeI fc hrow406 hm407
  refine lw [V3 bS bT bU,V3 bV bW bX,V3 bY bZ ca] tf36 fg.f7 fun gy cZ=>(lv (r_f u) (nq (rr ?_)))
  cases oi eX
  exact qe_ret (vs:=[_,_]) results55 ⟨⟨_,_,u,run_loadVar_at tf36 (cs:=[V3 bS bT bU,V3 bV bW bX,V3 bY bZ ca]) (fun j c e=>by rw [Nat.zero_add,cZ.mem_obj m0];exact e) (.inl ⟨u,u,u⟩)⟩,u,trivial⟩ ⟨bS,bT,bU,bV,bW,bX,bY,bZ,ca,fd,u,cZ.s,(eZ.mono cY),(fb.mono cY),fe⟩
 refine wc_skip (qr (lv (rv_loadmS (ds:=[V3 W X Y,V3 aa ab ac,V3 aq ar au]) tf36 u m0 aQ u u) (lw [V3 W X Y,V3 aa ab ac,V3 aq ar au] tf36 aQ.f6 fun gz da=>(lv (r_t u) (nq (wc_ret ?_))))))
 cases oi bR
 exact qe_ret (vs:=[_,_]) results55 ⟨⟨_,_,u,run_loadVar_at tf36 (cs:=[V3 W X Y,V3 aa ab ac,V3 aq ar au]) (fun j c e=>by rw [Nat.zero_add,da.mem_obj m0];exact e) (.inl ⟨u,u,u⟩)⟩,u,trivial⟩ ⟨W,X,Y,aa,ab,ac,aq,ar,au,eU,u,da.s,(SliceAt.mono ((((q.le.trans s).trans x).trans V).trans aw.le) cV),(SliceAt.mono ((((q.le.trans s).trans x).trans V).trans aw.le) cW),(cX.mono aw.le)⟩

theorem ok_spec_l30Rd_of {q0:GL30Rd}{q1:List Str}{r:Str×GL30Rd}(hS:SH w K Z w K [obj g1 [V3 A a b,V6 q0.p_] 208])(l:SliceAt tU8 K A a b q0.b_)(m:rng64 q0.p_)(f:SliceAt tStr K B c d q1)(hm:M.spec_l30Rd_of F q0 q1=some r):
  Calls prog 257 #[.pointer (some ⟨g1,0,none⟩),V3 B c d] w fun e w'=>∃a_2 n_3 c_4 K',e= .returned (sv r.1)∧SH w K Z w' K' [obj g1 [V3 a_2 n_3 c_4,V6 r.2.p_] 208]∧r.1.length≤maxLen∧SliceAt tU8 K' a_2 n_3 c_4 r.2.b_∧rng64 r.2.p_:=by
 rw [M.spec_l30Rd_of] at hm
 refine ci func257 u ntmps257 (sr (lv (r_s u) (nr (mv u (mv u (mv u (lv (rv_len underlying22 u f) ?_)))))))
 obtain⟨W,o,q⟩:=ob hm
 refine lk co106 (ok_spec_l30Rd_pick F hS.e1 l m f.rn o) ?_
 rintro X Y ⟨s,x,y,C,rfl,i,aa,D,G⟩
 have k:=(hS.c1 i).t1
 obtain⟨H,I,J⟩:=ob q
 refine li underlying22 tf9 (f.mono i.le) I fun O R ab S T=>?_
 obtain⟨rfl,U⟩:=S
 have V:AtK _ O R [sv H]:=T
 refine lv (rv_load1 tf9 u k (V 0 _ u)) (av u (nq (wc_ret ?_)))
 cases oi J
 exact ey results257 ⟨s,x,y,C,u,k,U,D,G⟩

theorem ok_spec_l30Raw {q0:GL30Rd}{r:Str×GL30Rd}(hS:SH w K Z w K [obj g1 [V3 A a b,V6 q0.p_] 208])(d:SliceAt tU8 K A a b q0.b_)(f:rng64 q0.p_)(hm:M.spec_l30Raw F q0=some r):
  Calls prog 267 #[.pointer (some ⟨g1,0,none⟩)] w fun e w'=>∃a_2 n_3 c_4 K',e= .returned (sv r.1)∧SH w K Z w' K' [obj g1 [V3 a_2 n_3 c_4,V6 r.2.p_] 208]∧r.1.length≤maxLen∧SliceAt tU8 K' a_2 n_3 c_4 r.2.b_∧rng64 r.2.p_:=by
 rw [M.spec_l30Raw] at hm
 refine ci func267 u ntmps267 (sr (lv (r_s u) (nr (mv u (bw [[99,97,116],[67,97,116,115],[100,111,103],[100,111,103,115],[114,117,110],[82,85,78,78,73,78,71],[116,104,101],[114,101,100],[98,105,103],[110,101,119,32,121,111,114,107],[78,101,119,32,32,89,111,114,107],[110,121],[102,111,120],[112,97,115,115,101,100],[120,49],[97,118,101,114,121,118,101,114,121,108,111,110,103,119,111,114,100]] underlying22 tf9 hS fun I J O i k l=>?_)))))
 obtain⟨R,m,o⟩:=ob hm
 have c:=l.f1
 refine lk co257 (ok_spec_l30Rd_of F c.e1 (d.mono i) f k m) ?_
 rintro S T ⟨q,s,x,y,rfl,B,C,D,G⟩
 have H:=(c.c1 B).t2
 refine av u (nq (wc_ret ?_))
 cases oi o
 exact ey results267 ⟨q,s,x,y,u,H.s,C,D,G⟩

theorem ok_spec_l30Text {q0:GL30Rd}{r:Str×GL30Rd}(hS:SH w K Z w K [obj g1 [V3 A a b,V6 q0.p_] 208])(S:SliceAt tU8 K A a b q0.b_)(T:rng64 q0.p_)(hm:M.spec_l30Text F q0=some r):
  Calls prog 256 #[.pointer (some ⟨g1,0,none⟩)] w fun e w'=>∃a_2 n_3 c_4 K',e= .returned (sv r.1)∧SH w K Z w' K' [obj g1 [V3 a_2 n_3 c_4,V6 r.2.p_] 208]∧r.1.length≤maxLen∧SliceAt tU8 K' a_2 n_3 c_4 r.2.b_∧rng64 r.2.p_:=by
 rw [M.spec_l30Text] at hm
 refine ci func256 u ntmps256 (sr (lv (r_s u) (nr (lv (r_s u) (nsr (mv u ?_))))))
 obtain⟨r7,U,V⟩:=ob hm
 refine lk co106 (ok_spec_l30Rd_pick F hS.e1 S T (by decide :rng64 9) U) ?_
 rintro aO aP ⟨W,X,Y,x,rfl,aa,ab,ac,ad⟩
 have ae:=(hS.c1 aa).t1
 refine av u (nq ?_)
 obtain⟨d,af,ag⟩:=ob V
 refine wc_cutg (fun E' w'=>∃k l m f,E'=[(0,pt g1),(3,sv d.1)]∧SH w K Z w' f [obj g1 [V3 k l m,V6 d.2.p_] 208]∧KLe x f∧d.1.length≤maxLen∧SliceAt tU8 f k l m d.2.b_∧rng64 d.2.p_) ?_ ?_
 ·refine wc_block ?_
  obtain⟨aQ,ah,ai⟩:=ob af
  refine qw (fun (c:Str×Int×GL30Rd) E' w'=>∃o q s i,E'=[(0,pt g1),(3,sv c.1),(4,V6 c.2.1)]∧SH w K Z w' i [obj g1 [V3 o q s,V6 c.2.2.p_] 208]∧KLe x i∧c.1.length≤maxLen∧rng64 c.2.1∧SliceAt tU8 i o q s c.2.2.b_∧rng64 c.2.2.p_) ah ⟨W,X,Y,x,u,ae,kr,(by decide :([]:Str).length≤maxLen),ab,ac,ad⟩ ?_
  rintro c _ aR aS aj ak ⟨o,q,s,i,rfl,y,C,al,aT,D,G⟩
  refine wc_seq (sr (mv u (lv (rv_gtr u u) (nq (wcc aj u (fun am B=>?_) (fun am B=>?_))))))
  ·refine wc_skip (qs (wc_block (wc_region (mv u (mv u ?_)))))
   obtain⟨aU,an,ao⟩:=ob B
   refine lk co267 (ok_spec_l30Raw F y.e1 D G an) ?_
   rintro aV aW ⟨aX,aY,aZ,ba,rfl,H,bb,ap,aq⟩
   have ar:=(y.c1 H).t1
   obtain⟨bc,au,aw⟩:=ob ao
   refine lv (rv_sadd u u au) (mv u (bw [[32],[32],[44,32],[45],[46,32]] underlying22 tf9 ar fun bd be bf I ax ay=>?_))
   obtain⟨bg,az,aA⟩:=ob aw
   have J:=ay.f1
   refine lk co257 (ok_spec_l30Rd_of F J.e1 (ap.mono I) aq ax az) ?_
   rintro bh bi ⟨aB,aC,aD,aE,rfl,O,bj,aF,aG⟩
   have aH:=(J.c1 O).t2
   obtain⟨bk,R,aI⟩:=ob aA
   refine lv (rv_sadd u u R) (av u (nb (qe_seq (wc_region (mv u (lv (rv_sub u u) (av u (wl_nil ?_))))))))
   cases oi aI
   exact qd ⟨_,u,aB,aC,aD,aE,u,aH.s,(((C.trans H.le).trans I).trans O.le),(len_cat R),(w64_rng _),aF,aG⟩
  refine wc_exit (qe_then_exit (qe_then_exit ?_))
  cases oi B
  cases ak _ u
  refine qe_block_eq ?_
  cases oi ai
  exact qd ⟨o,q,s,i,u,y,C,al,D,G⟩
 rintro _ bl ⟨k,l,m,f,rfl,aJ,bm,aK,aL,aM⟩
 refine qr (mv u (av u (nq (wc_ret ?_))))
 cases oi ag
 exact ey results256 ⟨k,l,m,f,u,aJ,aK,aL,aM⟩

theorem ok_spec_l30Doc {q0:GL30Rd}{q1:Int}{r:GDoc×GL30Rd}(hS:SH w K Z w K [obj g1 [V3 A a b,V6 q0.p_] 208])(bW:SliceAt tU8 K A a b q0.b_)(bX:rng64 q0.p_)(bo:rng64 q1)(hm:M.spec_l30Doc F q0 q1=some r):
  Calls prog 225 #[.pointer (some ⟨g1,0,none⟩),V6 q1] w fun e w'=>∃a_2 n_3 c_4 a_6 n_7 c_8 a_10 n_11 c_12 K',e= .returned (.agg #[V6 r.1.Id,V3 a_2 n_3 c_4,V3 a_6 n_7 c_8])∧SH w K Z w' K' [tail (V3 a_2 n_3 c_4) 108 2,tail (V3 a_6 n_7 c_8) 142 2,obj g1 [V3 a_10 n_11 c_12,V6 r.2.p_] 208]∧rng64 r.1.Id∧SliceAt tGField K' a_2 n_3 c_4 r.1.Fields∧SliceAt tGAttr K' a_6 n_7 c_8 r.1.Nums∧SliceAt tU8 K' a_10 n_11 c_12 r.2.b_∧rng64 r.2.p_:=by
 rw [M.spec_l30Doc] at hm
 refine ci func225 u ntmps225 (sr (al tf77 hS fun I w9 bY=>?_))
 have bZ:SH _ _ _ _ _ [obj I [V6 0,V3 none 0 0,V3 none 0 0] 77,_]:=bY
 refine nr (mv u (lv (rv_build (cs:=#[V6 q1,V3 none 0 0,V3 none 0 0]) sp77 tf77 u (by kernel_rfl)) (al tf77 bZ fun k dX ca=>?_)))
 have cb:SH _ _ _ _ _ [obj k [V6 0,V3 none 0 0,V3 none 0 0] 77,_,_]:=ca
 refine lw [V6 q1,V3 none 0 0,V3 none 0 0] tf77 cb fun dY cc=>(nsr (mv u ?_))
 obtain⟨dZ,cd,ce⟩:=ob hm
 have bp:=cc.f2
 refine lk co106 (ok_spec_l30Rd_pick F bp.e1 bW bX (by decide :rng64 6) cd) ?_
 rintro ea eb ⟨cf,cg,ch,aB,rfl,cj,ec,bq,br⟩
 have bs:=(bp.c1 cj).t3
 refine lv (rv_gtr u u) (nq ?_)
 obtain⟨l,ck,cl⟩:=ob ce
 refine wc_cutg (fun E' w'=>∃aC aD aE S T U o q s V,E'=[(0,pt g1),(4,pt I),(5,pt k)]∧SH w K Z w' V [obj g1 [V3 aC aD aE,V6 l.1.p_] 208,obj I [V6 0,V3 none 0 0,V3 none 0 0] 77,obj k [V6 l.2.Id,V3 S T U,V3 o q s] 77,tail (V3 S T U) 108 2,tail (V3 o q s) 142 2]∧KLe aB V∧SliceAt tU8 V aC aD aE l.1.b_∧rng64 l.1.p_∧rng64 l.2.Id∧SliceAt tGField V S T U l.2.Fields∧SliceAt tGAttr V o q s l.2.Nums) ?_ ?_
 ·refine wcc ck u (fun cm aF=>?_) (fun cm aF=>?_)
  ·have ao:=bs.drew
   refine wh1 (fun w'=>Holds aB w') (fun w'=>HasObj k [V6 q1,V3 none 0 0,V3 none 0 0] w') 8 [(1,6),(1,7),(1,8),(6,7),(6,8),(7,8)] mixed (ao.hasK kr) (fun _=>ao.hasObj (.tail _ (.head _))) (gt (rv_fieldAddr ff77_1 u) (gf (fun _ h=>rh_loadm1 tf74 u u h) (gt (rv_move u) (gn ?_))))
   obtain⟨ap,cn,cp⟩:=ob aF
   refine lk co256 (ok_spec_l30Text F ao.e1 bq br cn) ?_
   rintro ed ee ⟨cq,cr,ct,ef,rfl,W,cu,cv,cw⟩
   have aG:=(ao.c1 W).t3
   refine wl_nil (qh (aG.hasK W.le) (fun _=>aG.hasObj (.tail _ (.head _))) (gt (rv_build (cs:=#[sv [98,111,100,121],sv ap.1]) sp108 tf108 u (by kernel_rfl)) (gn (lb tGField (.agg #[sv [98,111,100,121],sv ap.1]) [sv [98,111,100,121],sv ap.1] (GField.mk ([98,111,100,121]:Str) ap.1) underlying74 tf108 ⟨u,(by decide :([98,111,100,121]:Str).length≤maxLen),cu⟩ aG fun eg eh ei ae cx aH=>(wl_nil (qh (aH.hasK (W.le.trans ae)) (fun _=>aH.hasObj (.tail _ (.tail _ (.head _)))) (gn ?_)))))))
   have cy:=aH.nil 108 2
   obtain⟨ej,cz,cA⟩:=ob cp
   refine lp underlying74 tf108 (SliceAt.nil _ _) cx cz cy fun aI aJ aK ek cB aq cC aL=>(wl_nil (qh (aL.hasK ((W.le.trans ae).trans aq)) (fun _=>aL.hasObj (.tail _ (.tail _ (.tail _ (.head _))))) (gt (rv_fieldAddr ff77_1 u) (gn (ls [V6 q1,V3 aI aJ aK,V3 none 0 0] (V3 aI aJ aK) tf74 aL.f3 fun el bu=>(wl_nil (qh (bu.hasK ((W.le.trans ae).trans aq)) (fun h=>nomatch h) (gd' ?_))))))))
   cases oi cA
   have cD:=bu.nil 142 2
   exact qd ⟨cq,cr,ct,aI,aJ,aK,none,0,0,cB,u,cD.f2.f2.f5.f5.s,((W.le.trans ae).trans aq),(cv.mono (ae.trans aq)),cw,bo,cC,(SliceAt.nil _ _)⟩
  refine wc_skip ?_
  cases oi aF
  have cE:=bs.nil 108 2
  have cF:=cE.nil 142 2
  exact qd ⟨cf,cg,ch,none,0,0,none,0,0,aB,u,cF.f1.f3.f4.f4,kr,bq,br,bo,(SliceAt.nil _ _),(SliceAt.nil _ _)⟩
 rintro _ em ⟨aC,aD,aE,S,T,U,o,q,s,V,rfl,bv,en,cG,cH,bx,bz,bA⟩
 refine qs (sr (mv u ?_))
 obtain⟨eo,cI,cJ⟩:=ob cl
 refine lk co106 (ok_spec_l30Rd_pick F bv.e1 cG cH (by decide :rng64 3) cI) ?_
 rintro ep eq ⟨cK,cL,cM,aM,rfl,af,es,bB,bC⟩
 have bD:=(bv.c1 af).t5
 refine lv (rv_eql u u) (nq ?_)
 obtain⟨m,cN,cO⟩:=ob cJ
 refine wc_cutg (fun E' w'=>∃aN aO aP v x y X Y aa ab,E'=[(0,pt g1),(4,pt I),(5,pt k)]∧SH w K Z w' ab [obj g1 [V3 aN aO aP,V6 m.1.p_] 208,obj I [V6 0,V3 none 0 0,V3 none 0 0] 77,obj k [V6 m.2.Id,V3 v x y,V3 X Y aa] 77,tail (V3 v x y) 108 2,tail (V3 X Y aa) 142 2]∧KLe aM ab∧SliceAt tU8 ab aN aO aP m.1.b_∧rng64 m.1.p_∧rng64 m.2.Id∧SliceAt tGField ab v x y m.2.Fields∧SliceAt tGAttr ab X Y aa m.2.Nums) ?_ ?_
 ·refine wcc cN u (fun cP aQ=>?_) (fun cP aQ=>?_)
  ·have ar:=bD.drew
   refine wh1 (fun w'=>Holds aM w') (fun w'=>HasObj k [V6 l.2.Id,V3 S T U,V3 o q s] w') 8 [(1,6),(1,7),(1,8),(6,7),(6,8),(7,8)] mixed (ar.hasK kr) (fun _=>ar.hasObj (.tail _ (.tail _ (.head _)))) (gt (rv_fieldAddr ff77_1 u) (gf (fun _ h=>rh_loadm1 tf74 u u h) (gt (rv_move u) (gn ?_))))
   obtain⟨au,cQ,cR⟩:=ob aQ
   refine lk co256 (ok_spec_l30Text F ar.e1 bB bC cQ) ?_
   rintro et eu ⟨cS,cT,cU,ev,rfl,B,cV,cW,cX⟩
   have aR:=(ar.c1 B).t5
   refine wl_nil (qh (aR.hasK B.le) (fun _=>aR.hasObj (.tail _ (.tail _ (.head _)))) (gt (rv_build (cs:=#[sv [116,105,116,108,101],sv au.1]) sp108 tf108 u (by kernel_rfl)) (gn (lb tGField (.agg #[sv [116,105,116,108,101],sv au.1]) [sv [116,105,116,108,101],sv au.1] (GField.mk ([116,105,116,108,101]:Str) au.1) underlying74 tf108 ⟨u,(by decide :([116,105,116,108,101]:Str).length≤maxLen),cV⟩ aR fun ew ex eA J cY aS=>(wl_nil (qh (aS.hasK (B.le.trans J)) (fun _=>aS.hasObj (.tail _ (.tail _ (.tail _ (.head _))))) (gn ?_)))))))
   obtain⟨eB,cZ,da⟩:=ob cR
   refine lp underlying74 tf108 (bz.mono ((af.le.trans B.le).trans J)) cY cZ aS.f4 fun aT aU aV eC db ag dc aW=>(wl_nil (qh (aW.hasK ((B.le.trans J).trans ag)) (fun _=>aW.hasObj (.tail _ (.tail _ (.tail _ (.tail _ (.head _)))))) (gt (rv_fieldAddr ff77_1 u) (gn (ls [V6 l.2.Id,V3 aT aU aV,V3 o q s] (V3 aT aU aV) tf74 aW.f4 fun eD bE=>(wl_nil (qh (bE.hasK ((B.le.trans J).trans ag)) (fun h=>nomatch h) (gd' ?_))))))))
   cases oi da
   exact qd ⟨cS,cT,cU,aT,aU,aV,o,q,s,db,u,bE.f5.f2.f2.f5.f5.s,((B.le.trans J).trans ag),(cW.mono (J.trans ag)),cX,bx,dc,(SliceAt.mono (((af.le.trans B.le).trans J).trans ag) bA)⟩
  refine wc_skip ?_
  cases oi aQ
  exact qd ⟨cK,cL,cM,S,T,U,o,q,s,aM,u,bD,kr,bB,bC,bx,(bz.mono af.le),(bA.mono af.le)⟩
 rintro _ eE ⟨aN,aO,aP,v,x,y,X,Y,aa,ab,rfl,bF,eF,dd,de,bG,bH,bI⟩
 refine qs (sr (mv u ?_))
 obtain⟨eG,df,dg⟩:=ob cO
 refine lk co106 (ok_spec_l30Rd_pick F bF.e1 dd de (by decide :rng64 3) df) ?_
 rintro eH eI ⟨dh,di,dj,aX,rfl,ah,eJ,bJ,bK⟩
 have bL:=(bF.c1 ah).t5
 refine lv (rv_gtr u u) (nq ?_)
 obtain⟨c,dk,dl⟩:=ob dg
 refine wc_cutg (fun E' w'=>∃aY aZ ba d f i C D G ac,E'=[(0,pt g1),(4,pt I),(5,pt k)]∧SH w K Z w' ac [obj g1 [V3 aY aZ ba,V6 c.1.p_] 208,obj I [V6 0,V3 none 0 0,V3 none 0 0] 77,obj k [V6 c.2.Id,V3 d f i,V3 C D G] 77,tail (V3 d f i) 108 2,tail (V3 C D G) 142 2]∧KLe aX ac∧SliceAt tU8 ac aY aZ ba c.1.b_∧rng64 c.1.p_∧rng64 c.2.Id∧SliceAt tGField ac d f i c.2.Fields∧SliceAt tGAttr ac C D G c.2.Nums) ?_ ?_
 ·refine wcc dk u (fun dm bb=>?_) (fun dm bb=>?_)
  ·have aw:=bL.drew
   refine wh1 (fun w'=>Holds aX w') (fun w'=>HasObj k [V6 m.2.Id,V3 v x y,V3 X Y aa] w') 8 [(1,6),(1,7),(1,8),(6,7),(6,8),(7,8)] mixed (aw.hasK kr) (fun _=>aw.hasObj (.tail _ (.tail _ (.head _)))) (gt (rv_fieldAddr ff77_2 u) (gf (fun _ h=>rh_loadm1 tf75 u u h) (gt (rv_move u) (gn ?_))))
   obtain⟨ax,dn,dp⟩:=ob bb
   refine lk co106 (ok_spec_l30Rd_pick F aw.e1 bJ bK (by decide :rng64 4) dn) ?_
   rintro eK eL ⟨dq,dr,dt,eM,rfl,H,du,dv,dw⟩
   have bc:=(aw.c1 H).t5
   refine wl_nil (qh (bc.hasK H.le) (fun _=>bc.hasObj (.tail _ (.tail _ (.head _)))) (gt (rv_build (cs:=#[sv [114,97,116,101],V6 ax.1]) sp142 tf142 u (by kernel_rfl)) (gn (lb tGAttr (.agg #[sv [114,97,116,101],V6 ax.1]) [sv [114,97,116,101],V6 ax.1] (GAttr.mk ([114,97,116,101]:Str) ax.1) underlying75 tf142 ⟨u,(by decide :([114,97,116,101]:Str).length≤maxLen),du⟩ bc fun eN eO eP O dx bd=>(wl_nil (qh (bd.hasK (H.le.trans O)) (fun _=>bd.hasObj (.tail _ (.tail _ (.tail _ (.head _))))) (gn ?_)))))))
   obtain⟨eQ,dy,dz⟩:=ob dp
   refine lp underlying75 tf142 (bI.mono ((ah.le.trans H.le).trans O)) dx dy bd.f5 fun be bf bg eR dA ai dB bh=>(wl_nil (qh (bh.hasK ((H.le.trans O).trans ai)) (fun _=>bh.hasObj (.tail _ (.tail _ (.tail _ (.tail _ (.head _)))))) (gt (rv_fieldAddr ff77_2 u) (gn (ls [V6 m.2.Id,V3 v x y,V3 be bf bg] (V3 be bf bg) tf75 bh.f4 fun eS bM=>(wl_nil (qh (bM.hasK ((H.le.trans O).trans ai)) (fun h=>nomatch h) (gd' ?_))))))))
   cases oi dz
   exact qd ⟨dq,dr,dt,v,x,y,be,bf,bg,dA,u,bM.f1.f5.f2.f5.f5.s,((H.le.trans O).trans ai),(dv.mono (O.trans ai)),dw,bG,(SliceAt.mono (((ah.le.trans H.le).trans O).trans ai) bH),dB⟩
  refine wc_skip ?_
  cases oi bb
  exact qd ⟨dh,di,dj,v,x,y,X,Y,aa,aX,u,bL,kr,bJ,bK,bG,(bH.mono ah.le),(bI.mono ah.le)⟩
 rintro _ eT ⟨aY,aZ,ba,d,f,i,C,D,G,ac,rfl,bN,eU,dC,dD,bO,bP,bQ⟩
 refine qs (sr (mv u ?_))
 obtain⟨eV,dE,dF⟩:=ob dl
 refine lk co106 (ok_spec_l30Rd_pick F bN.e1 dC dD (by decide :rng64 3) dE) ?_
 rintro eW eX ⟨dG,dH,dI,bR,rfl,aj,eY,bS,bT⟩
 have bi:=(bN.c1 aj).t5
 refine lv (rv_eql u u) (nq (wcc dF u (fun dJ bj=>?_) (fun dJ bj=>?_)))
 ·have ay:=bi.drew
  refine wh1 (fun w'=>Holds bR w') (fun w'=>HasObj k [V6 c.2.Id,V3 d f i,V3 C D G] w') 9 [(1,7),(1,8),(1,9),(7,8),(7,9),(8,9)] mixed (ay.hasK kr) (fun _=>ay.hasObj (.tail _ (.tail _ (.head _)))) (gt (rv_fieldAddr ff77_2 u) (gf (fun _ h=>rh_loadm1 tf75 u u h) (gt (rv_move u) (gn ?_))))
  obtain⟨az,dK,dL⟩:=ob bj
  refine lk co106 (ok_spec_l30Rd_pick F ay.e1 bS bT (by decide :rng64 30) dK) ?_
  rintro eZ fb ⟨dM,dN,dO,fc,rfl,R,fd,dP,dQ⟩
  have bk:=(ay.c1 R).t5
  refine wl_nil (qh (bk.hasK R.le) (fun _=>bk.hasObj (.tail _ (.tail _ (.head _)))) (gt (rv_add u u) (gt (rv_build (cs:=#[sv [121,101,97,114],V6 (w64 ((2000:Int)+az.1))]) sp142 tf142 u (by kernel_rfl)) (gn (lb tGAttr (.agg #[sv [121,101,97,114],V6 (w64 ((2000:Int)+az.1))]) [sv [121,101,97,114],V6 (w64 ((2000:Int)+az.1))] (GAttr.mk ([121,101,97,114]:Str) (w64 ((2000:Int)+az.1))) underlying75 tf142 ⟨u,(by decide :([121,101,97,114]:Str).length≤maxLen),(w64_rng _)⟩ bk fun fe fg fh ad dR bl=>(wl_nil (qh (bl.hasK (R.le.trans ad)) (fun _=>bl.hasObj (.tail _ (.tail _ (.tail _ (.head _))))) (gn ?_))))))))
  obtain⟨fi,dS,dT⟩:=ob dL
  refine lp underlying75 tf142 (bQ.mono ((aj.le.trans R.le).trans ad)) dR dS bl.f5 fun ak am an fj dU aA dV bm=>(wl_nil (qh (bm.hasK ((R.le.trans ad).trans aA)) (fun _=>bm.hasObj (.tail _ (.tail _ (.tail _ (.tail _ (.head _)))))) (gt (rv_fieldAddr ff77_2 u) (gn (ls [V6 c.2.Id,V3 d f i,V3 ak am an] (V3 ak am an) tf75 bm.f4 fun fk bn=>(wl_nil (qh (bn.hasK ((R.le.trans ad).trans aA)) (fun h=>nomatch h) (gd' (qr (lv (rv_loadmS (ds:=[V6 c.2.Id,V3 d f i,V3 ak am an]) tf77 u m0 bn u u) (lw [V6 c.2.Id,V3 d f i,V3 ak am an] tf77 bn.f4 fun fm bU=>?_)))))))))))
  refine nq (wc_ret ?_)
  cases oi dT
  exact ez results225 tf77 bU m0 ⟨d,f,i,ak,am,an,dM,dN,dO,dU,u,bU.f4.f3.f5.s,bO,(SliceAt.mono (((aj.le.trans R.le).trans ad).trans aA) bP),dV,(dP.mono (ad.trans aA)),dQ⟩
 refine wc_skip (qr (lv (rv_loadmS (ds:=[V6 c.2.Id,V3 d f i,V3 C D G]) tf77 u m2 bi u u) (lw [V6 c.2.Id,V3 d f i,V3 C D G] tf77 bi.f1 fun fn bV=>(nq (wc_ret ?_)))))
 cases oi bj
 exact ez results225 tf77 bV m0 ⟨d,f,i,C,D,G,dG,dH,dI,bR,u,bV.f1.f4.f4.s,bO,(bP.mono aj.le),(bQ.mono aj.le),bS,bT⟩
end Go.Proofs.YtpjefkdclnmlfaaGreat
