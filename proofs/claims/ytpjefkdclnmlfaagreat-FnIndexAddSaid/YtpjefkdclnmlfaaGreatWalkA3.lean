/-
 Walks of the functions. Printed by gen.py.
-/
import Derived.Test.YtpjefkdclnmlfaaGreatWalkA2
set_option linter.unusedVariables false
set_option linter.unusedSectionVars false
set_option maxRecDepth 100000
namespace Go.Proofs.YtpjefkdclnmlfaaGreat
set_option maxHeartbeats 4000000
open Go Go.Fk Go.RowKit Tryz
variable (F:Nat){w:World}{K:KMap}{Z:List Nat}{g1 g2 g3:Nat}{A B C D G H I J O R S T:Option Addr}{a b c d f i k l m n o p q s v x y aa ab ac ad ae af ag:Nat}
variable [dr:Dr]

theorem ok_impl_cloneDoc {q0:GDoc}{r:GDoc}(hS:SH w K [] w K [])(G:rng64 q0.Id)(H:SliceAt tGField K A a b q0.Fields)(I:SliceAt tGAttr K B c d q0.Nums)(hm:M.impl_cloneDoc F q0=some r):
  Calls prog 147 #[.agg #[V6 q0.Id,V3 A a b,V3 B c d]] w fun e w'=>∃a_2 n_3 c_4 a_6 n_7 c_8 K',e= .returned (.agg #[V6 r.Id,V3 a_2 n_3 c_4,V3 a_6 n_7 c_8])∧SH w K [] w' K' [tail (V3 a_2 n_3 c_4) 108 2,tail (V3 a_6 n_7 c_8) 142 2]∧rng64 r.Id∧SliceAt tGField K' a_2 n_3 c_4 r.Fields∧SliceAt tGAttr K' a_6 n_7 c_8 r.Nums:=by
 rw [M.impl_cloneDoc] at hm
 refine ci func147 u ntmps147 (sr (bx u hS fun aC aX aE=>?_))
 have aF:SH _ _ _ _ _ [obj aC [V6 q0.Id,V3 A a b,V3 B c d] 77]:=aE
 refine al tf77 aF fun aG aY aH=>?_
 have aI:SH _ _ _ _ _ [obj aG [V6 0,V3 none 0 0,V3 none 0 0] 77,_]:=aH
 refine ns ?_
 obtain⟨aZ,J,aJ⟩:=ob hm
 obtain⟨ba,O,R⟩:=ob aJ
 have v:=aI.drew
 refine j_0 (fun w'=>Holds K w'∧HasObj aC [V6 q0.Id,V3 A a b,V3 B c d] w') 12 [] mixed ⟨v.hasK kr,v.hasObj m1⟩ (jv 0 u (rv_fieldAddr ff77_0 u) (jh 1 u (fun _ h=>rh_loadm1 tf3 u u h.2) (jv 3 u (rv_fieldAddr ff77_1 u) (jh 4 u (fun _ h=>rh_loadm1 tf74 u u h.2) (jv 7 u (rv_fieldAddr ff77_2 u) (jh 8 u (fun _ h=>rh_loadm1 tf75 u u h.2) (j2 2 6 u u ?_ ?_)))))))
 ·refine b0 tGField underlying74 tf108 v fun bb bc bd f aD x=>(j_o ⟨x.hasK f,x.hasObj m2⟩ (j2 5 6 u u ?_ ?_))
  ·refine lp underlying74 tf108 aD (H.mono f) J x fun S T U be bf m aK V=>(j_o ⟨V.hasK (f.trans m),V.hasObj m2⟩ (j1 6 u (b0 tGAttr underlying75 tf142 V fun bg bh bi o aL W=>(j_o ⟨W.hasK ((f.trans m).trans o),W.hasObj m3⟩ (j1 9 u (lp underlying75 tf142 aL (I.mono ((f.trans m).trans o)) O W fun X Y aa bj aM ab aN ac=>(j_o ⟨ac.hasK (((f.trans m).trans o).trans ab),ac.hasObj m3⟩ (jv 10 u (rv_build (cs:=#[V6 q0.Id,V3 S T U,V3 X Y aa]) sp77 tf77 u (by kernel_rfl)) (j1 11 u ?_)))))))))
   refine lw [V6 q0.Id,V3 S T U,V3 X Y aa] tf77 ac.f2 fun bk y=>(j_o ⟨y.hasK (((f.trans m).trans o).trans ab),y.hasObj m3⟩ (jd (qe_seq (wc_ret ?_))))
   cases oi R
   exact ez results147 tf77 y m0 ⟨S,T,U,X,Y,aa,aM,u,y.f1.f2.s,G,(aK.mono (o.trans ab)),aN⟩
  refine b0 tGAttr underlying75 tf142 x fun bl bm bn i aO ad=>(j_o ⟨ad.hasK (f.trans i),ad.hasObj m3⟩ (j1 5 u (lp underlying74 tf108 (aD.mono i) (H.mono (f.trans i)) J ad.f1 fun ae af ag bo bp q aP ah=>(j_o ⟨ah.hasK ((f.trans i).trans q),ah.hasObj m3⟩ (j1 9 u (lp underlying75 tf142 (aO.mono q) (I.mono ((f.trans i).trans q)) O ah.f1 fun ai aj ak bq aQ am aR an=>(j_o ⟨an.hasK (((f.trans i).trans q).trans am),an.hasObj m3⟩ (jv 10 u (rv_build (cs:=#[V6 q0.Id,V3 ae af ag,V3 ai aj ak]) sp77 tf77 u (by kernel_rfl)) (j1 11 u ?_)))))))))
  refine lw [V6 q0.Id,V3 ae af ag,V3 ai aj ak] tf77 an.f2 fun br C=>(j_o ⟨C.hasK (((f.trans i).trans q).trans am),C.hasObj m3⟩ (jd (qe_seq (wc_ret ?_))))
  cases oi R
  exact ez results147 tf77 C m0 ⟨ae,af,ag,ai,aj,ak,aQ,u,C.f1.f2.s,G,(aP.mono am),aR⟩
 refine b0 tGAttr underlying75 tf142 v fun bs bu bv k aS ao=>(j_o ⟨ao.hasK k,ao.hasObj m2⟩ (j1 2 u (b0 tGField underlying74 tf108 ao fun bz bA bB l aT ap=>(j_o ⟨ap.hasK (k.trans l),ap.hasObj m3⟩ (j1 5 u (lp underlying74 tf108 aT (H.mono (k.trans l)) J ap fun aq ar au bC bD s aU aw=>(j_o ⟨aw.hasK ((k.trans l).trans s),aw.hasObj m3⟩ (j1 9 u (lp underlying75 tf142 (aS.mono (l.trans s)) (I.mono ((k.trans l).trans s)) O aw.f1 fun ax ay az bE aV aA aW aB=>?_)))))))))
 refine j_o ⟨aB.hasK (((k.trans l).trans s).trans aA),aB.hasObj m3⟩ (jv 10 u (rv_build (cs:=#[V6 q0.Id,V3 aq ar au,V3 ax ay az]) sp77 tf77 u (by kernel_rfl)) (j1 11 u (lw [V6 q0.Id,V3 aq ar au,V3 ax ay az] tf77 aB.f2 fun bF D=>(j_o ⟨D.hasK (((k.trans l).trans s).trans aA),D.hasObj m3⟩ (jd (qe_seq (wc_ret ?_)))))))
 cases oi R
 exact ez results147 tf77 D m0 ⟨aq,ar,au,ax,ay,az,aV,u,D.f1.f2.s,G,(aU.mono aA),aW⟩

theorem ok_impl_cloneDocs {q0:List GDoc}{r:(List GDoc)}(hS:SH w K [] w K [])(x:SliceAt tGDoc K A a b q0)(hm:M.impl_cloneDocs F q0=some r):
  Calls prog 72 #[V3 A a b] w fun e w'=>∃a_1 n_2 c_3 K',e= .returned (V3 a_1 n_2 c_3)∧SH w K [] w' K' [tail (V3 a_1 n_2 c_3) 77 3]∧SliceAt tGDoc K' a_1 n_2 c_3 r:=by
 rw [M.impl_cloneDocs] at hm
 refine ci func72 u ntmps72 (sr (lv (r_n u) (nr (b0 tGDoc underlying43 tf77 hS fun a5 w6 y B ag ah=>(av u (nsr (mv u (lv (rv_len underlying43 u (x.mono B)) (lv (r_m u) ?_)))))))))
 refine nq ?_
 obtain⟨ai,aj,ak⟩:=ob hm
 refine wc_cutg (fun E' w'=>∃k l m o,E'=[(3,V3 k l m)]∧SH w K [] w' o [tail (V3 k l m) 77 3]∧KLe y o∧SliceAt tGDoc o k l m ai) ?_ ?_
 ·refine wc_block ?_
  obtain⟨bb,am,an⟩:=ob aj
  refine qF (fun (ad:Nat) (C:(List GDoc)) E' w'=>∃c d f i,E'=[(3,V3 c d f),(7,V3 A a b),(8,V6 (q0.length:Int)),(9,V6 ((ad:Nat):Int))]∧SH w K [] w' i [tail (V3 c d f) 77 3]∧KLe y i∧SliceAt tGDoc i c d f C) am ⟨a5,0,0,y,u,ah,kr,ag⟩ ?_ ?_
  ·rintro ad C _ ao bc hi37 ap ⟨c,d,f,i,rfl,q,s,D⟩
   refine sr (lv (rv_lss u u) (ns (wc_cond_t u (decide_eq_true (by omega)) (wc_skip (qe_seq (wc_seq (wc_block (sr ?_))))))))
   obtain⟨G,aq,ar⟩:=ob ap
   refine li underlying43 tf77 (x.mono (B.trans s)) aq fun au aw bd ax ay=>?_
   obtain⟨H,I,J,O,R,S,rfl,az,aA,aB⟩:=ax
   have aC:AtK _ au aw [V6 G.Id,V3 H I J,V3 O R S]:=ay
   refine lv (rv_loadS tf77 u q aC u) (al tf77 q fun aD be aE=>?_)
   have aF:SH _ _ _ _ _ [obj aD [V6 0,V3 none 0 0,V3 none 0 0] 77,_]:=aE
   refine lw [V6 G.Id,V3 H I J,V3 O R S] tf77 aF fun bf T=>(nq (wc_region (mv u (lv (rv_loadmS (ds:=[V6 G.Id,V3 H I J,V3 O R S]) tf77 u m0 T u u) ?_))))
   obtain⟨U,aG,aH⟩:=ob ar
   refine lk co147 (ok_impl_cloneDoc F T.enter0 az aA aB aG) ?_
   rintro bg bh ⟨V,W,X,Y,aa,ab,bi,rfl,ac,aI,aJ,aK⟩
   have aL:=(T.c0 ac).t4
   refine lb tGDoc (.agg #[V6 U.Id,V3 V W X,V3 Y aa ab]) [V6 U.Id,V3 V W X,V3 Y aa ab] U underlying43 tf77 ⟨V,W,X,Y,aa,ab,u,aI,aJ,aK⟩ aL fun bj bk bl ae aM aN=>?_
   obtain⟨bm,aO,aP⟩:=ob aH
   refine lp underlying43 tf77 (D.mono (ac.le.trans ae)) aM aO aN.f4 fun aQ aR aS bn aT aU aV aW=>(av u (nb (qg (lv (rv_add_to u u (w64_succ hi37 (SliceAt.max (x.mono B)))) (mv u (wl_nil ?_))))))
   cases oi aP
   exact qd ⟨aQ,aR,aS,aT,u,aW.s,(((s.trans ac.le).trans ae).trans aU),aV⟩
  rintro C _ ao aX ⟨c,d,f,i,rfl,q,s,D⟩
  subst aX
  refine sr (lv (rv_lss u u) (ns (wc_cond_f u (decide_eq_false (by omega)) (wc_exit (qe_then_exit (qe_then_exit (qe_block_eq ?_)))))))
  cases oi an
  exact qd ⟨c,d,f,i,u,q,s,D⟩
 rintro _ bo ⟨k,l,m,o,rfl,aY,bp,aZ⟩
 refine qr (mv u (av u (nq (wc_ret ?_))))
 cases oi ak
 exact ey results72 ⟨k,l,m,o,u,aY,aZ⟩

theorem ok_impl_lower {q0:UInt8}{r:UInt8}(hS:SH w K [] w K [])(hm:M.impl_lower F q0=some r):
  Calls prog 201 #[iv8 q0] w fun e w'=>∃K',e= .returned (iv8 r)∧SH w K [] w' K' []:=by
 rw [M.impl_lower] at hm
 refine ci func201 u ntmps201 (sr (lv (rv_assign (v:=iv8 0) u) (ns (wc_seq ?_))))
 obtain⟨k,l,m⟩:=ob hm
 refine wc_cutg (IV w K [] K [(0,iv8 q0),(8,.bool k)] []) ?_ ?_
 ·refine wc_region (mv u (lv (rv_bge (b:=(65:UInt8)) u u) (mv u (bt l (fun a c=>?_) (fun a c=>?_)))))
  ·refine lg a (rv_move u) (lg a (rv_ble (b:=(90:UInt8)) u u) (lv (rv_pick_t u a u) (wl_nil ?_)))
   cases oi c
   exact qd ⟨K,u,hS,kr⟩
  refine lu a (lu a (lv (p_f u a u) (wl_nil ?_)))
  cases oi c
  exact qd ⟨K,u,hS,kr⟩
 rintro _ q ⟨f,rfl,i,s⟩
 refine qe_seq (wcc m u (fun o d=>?_) (fun o d=>?_))
 ·refine sr (mv u (lv (rv_badd (b:=(97:UInt8)) u u) (lv (rv_bsub (b:=(65:UInt8)) u u) (av u (nq (rr ?_))))))
  cases oi d
  exact ey results201 ⟨f,u,i⟩
 refine wc_skip (qr (mv u (av u (nq (wc_ret ?_)))))
 cases oi d
 exact ey results201 ⟨f,u,i⟩

theorem ok_impl_WordsOf {q0:Str}{r:(List GWord)}(hS:SH w K [] w K [])(aI:q0.length≤maxLen)(hm:M.impl_WordsOf F q0=some r):
  Calls prog 149 #[sv q0] w fun e w'=>∃a_1 n_2 c_3 K',e= .returned (V3 a_1 n_2 c_3)∧SH w K [] w' K' [tail (V3 a_1 n_2 c_3) 183 4]∧SliceAt tGWord K' a_1 n_2 c_3 r:=by
 rw [M.impl_WordsOf] at hm
 refine ci func149 u ntmps149 (sr (lv (r_n u) (nr (b0 tGWord underlying180 tf183 hS fun a2 w3 K4 cp an ao=>(av u (nsr (mv u ?_)))))))
 obtain⟨r8,aJ,aK⟩:=ob hm
 refine lk co148 (ok_impl_TextOk F ao.enter0 aI aJ) ?_
 rintro cr ct ⟨J,rfl,W⟩
 have ap:=(ao.c0 W).t1
 refine lv (rv_not u) (nq (wcc aK u (fun aL X=>?_) (fun aL X=>?_)))
 ·refine sr (mv u (av u (nq (rr ?_))))
  cases oi X
  exact ey results149 ⟨a2,0,0,J,u,ap,(an.mono W.le)⟩
 refine wc_skip (qs (sr (lv (r_0 u) (nq ?_))))
 obtain⟨aM,aN,aO⟩:=ob X
 refine wc_cutg (fun E' w'=>∃A B C D,E'=[(3,V3 A B C)]∧SH w K [] w' D [tail (V3 A B C) 183 4]∧KLe J D∧SliceAt tGWord D A B C aM) ?_ ?_
 ·refine wc_block ?_
  obtain⟨cu,aP,aQ⟩:=ob aN
  refine qw (fun (a:(List GWord)×Int) E' w'=>∃c d f G,E'=[(0,sv q0),(3,V3 c d f),(4,V6 a.2)]∧SH w K [] w' G [tail (V3 c d f) 183 4]∧KLe J G∧SliceAt tGWord G c d f a.1∧rng64 a.2) aP ⟨a2,0,0,J,u,ap,kr,(an.mono W.le),d_0⟩ ?_
  rintro a _ cv cw aR aS ⟨c,d,f,G,rfl,Y,aa,H,aq⟩
  refine wc_seq (sr (mv u (mv u (lv (rv_slen underlying9 u) (lv (rv_lss u u) (nq (wcc aR u (fun aT ab=>?_) (fun aT ab=>?_))))))))
  ·refine wc_skip (qe_seq (wc_block (wc_seq (sr (mv u (mv u ?_))))))
   obtain⟨cx,aU,aV⟩:=ob ab
   refine lv (rv_sidx underlying9 u u aU) ?_
   obtain⟨cy,aW,aX⟩:=ob aV
   refine lk co201 (ok_impl_lower F Y.enter0 aW) ?_
   rintro cz cA ⟨cB,rfl,o⟩
   have ar:=(Y.c0 o).t1
   obtain⟨cC,aY,aZ⟩:=ob aX
   refine lk co185 (ok_impl_wordByte F ar.enter0 aY) ?_
   rintro cD cE ⟨ba,rfl,q⟩
   have au:=(ar.c0 q).t1
   refine lv (rv_not u) (nq (wcc aZ u (fun bb ac=>?_) (fun bb ac=>?_)))
   ·refine sr (mv u (lv (rv_add u u) (av u (nq (wc_exit (qe_then_exit (qe_block_eq ?_)))))))
    cases oi ac
    exact qd ⟨_,u,c,d,f,ba,u,au,((aa.trans o.le).trans q.le),(H.mono (o.le.trans q.le)),(w64_rng _)⟩
   refine wc_skip (qr (mv u (lv (rv_len underlying180 u (H.mono (o.le.trans q.le))) (mv u (lv (rv_build (cs:=#[sv [],V6 (a.1.length:Int),V6 a.2,V6 0]) sp183 tf183 u (by kernel_rfl)) (al tf183 au fun s cF bc=>?_))))))
   have bd:SH _ _ _ _ _ [obj s [sv [],V6 0,V6 0,V6 0] 183,_]:=bc
   refine ls [sv [],V6 (a.1.length:Int),V6 a.2,V6 0] (.agg #[sv [],V6 (a.1.length:Int),V6 a.2,V6 0]) tf183 bd fun cG be=>(nr (b0 tU8 underlying69 tf5 be fun bf cH ad aw bg bh=>(av u (ns ?_))))
   obtain⟨b,bi,bj⟩:=ob ac
   refine wc_cutg (fun E' w'=>∃O R S T,E'=[(0,sv q0),(3,V3 c d f),(4,V6 b.1),(5,pt s),(6,V3 O R S)]∧SH w K [] w' T [obj s [sv [],V6 (a.1.length:Int),V6 a.2,V6 0] 183,tail (V3 c d f) 183 4,tail (V3 O R S) 5 1]∧KLe ad T∧rng64 b.1∧SliceAt tU8 T O R S b.2) ?_ ?_
   ·refine wc_block ?_
    obtain⟨cI,bk,bl⟩:=ob bi
    refine qw (fun (I:Int×(List UInt8)) E' w'=>∃k l m y,E'=[(0,sv q0),(3,V3 c d f),(4,V6 I.1),(5,pt s),(6,V3 k l m)]∧SH w K [] w' y [obj s [sv [],V6 (a.1.length:Int),V6 a.2,V6 0] 183,tail (V3 c d f) 183 4,tail (V3 k l m) 5 1]∧KLe ad y∧rng64 I.1∧SliceAt tU8 y k l m I.2) bk ⟨bf,0,0,ad,u,bh.f2.f2,kr,aq,bg⟩ ?_
    rintro I _ cJ cK bm bn ⟨k,l,m,y,rfl,ae,af,bo,U⟩
    refine wc_seq (wc_seq ?_)
    obtain⟨bp,bq,br⟩:=ob bm
    refine wc_cutg (IV w K [] y [(0,sv q0),(3,V3 c d f),(4,V6 I.1),(5,pt s),(6,V3 k l m),(39,.bool bp)] [obj s [sv [],V6 (a.1.length:Int),V6 a.2,V6 0] 183,tail (V3 c d f) 183 4,tail (V3 k l m) 5 1]) ?_ ?_
    ·refine wc_region (mv u (mv u (lv (rv_slen underlying9 u) (lv (rv_lss u u) (mv u (bt bq (fun i ag=>?_) (fun i ag=>?_)))))))
     ·refine lg i (rv_move u) (lg i (rv_move u) ?_)
      obtain⟨bs,bu,bv⟩:=ob ag
      refine lg i (rv_sidx underlying9 u u bu) ?_
      obtain⟨bx,bz,bA⟩:=ob bv
      refine wl_call (wg u u i) u (rt_call (vs:=[iv8 bs]) co201 u) (ok_impl_lower F ae.enter0 bz) ?_
      rintro cL cM ⟨cN,rfl,ax⟩
      refine⟨_,u,?_⟩
      have ay:=(ae.c0 ax).t3
      obtain⟨cO,bB,bC⟩:=ob bA
      refine wl_call (wg u u i) u (rt_call (vs:=[iv8 bx]) co185 u) (ok_impl_wordByte F ay.enter0 bB) ?_
      rintro cP cQ ⟨bD,rfl,az⟩
      refine⟨_,u,?_⟩
      have bE:=(ay.c0 az).t3
      refine lv (rv_pick_t u i u) (wl_nil ?_)
      cases oi bC
      exact qd ⟨bD,u,bE,(ax.le.trans az.le)⟩
     iterate 5 refine lu i ?_
     refine lv (p_f u i u) (wl_nil ?_)
     cases oi ag
     exact qd ⟨y,u,ae,kr⟩
    rintro _ cR ⟨aA,rfl,V,x⟩
    refine qe_seq (wcc br u (fun bF ah=>?_) (fun bF ah=>?_))
    ·refine wc_skip (qe_seq (wc_block (wc_seq (sr (mv u (lv (rv_len underlying69 u (U.mono x)) (lv (rv_lss u u) (nq (wcc ah u (fun bG ai=>?_) (fun bG ai=>?_))))))))))
     ·refine wc_region (mv u (mv u (mv u ?_)))
      obtain⟨cS,bH,bI⟩:=ob ai
      refine lv (rv_sidx underlying9 u u bH) ?_
      obtain⟨aj,bJ,bK⟩:=ob bI
      refine lk co201 (ok_impl_lower F V.enter0 bJ) ?_
      rintro cT cU ⟨cV,rfl,ak⟩
      have bL:=(V.c0 ak).t3
      refine lb tU8 (iv8 aj) [iv8 aj] aj underlying69 tf5 u bL fun cW cX cY aB bM bN=>?_
      obtain⟨cZ,bO,bP⟩:=ob bK
      refine lp underlying69 tf5 (U.mono ((x.trans ak.le).trans aB)) bM bO bN.f3 fun bQ bR bS da bT bU bV bW=>(av u (nq (wc_region (mv u (lv (rv_add u u) (av u (nb ?_)))))))
      cases oi bP
      exact qd ⟨_,u,bQ,bR,bS,bT,u,bW.f3.f3.s,((((af.trans x).trans ak.le).trans aB).trans bU),(w64_rng _),bV⟩
     refine wc_skip (qe_seq (wc_region (mv u (lv (rv_add u u) (av u (nb ?_))))))
     cases oi ai
     exact qd ⟨_,u,k,l,m,aA,u,V,(af.trans x),(w64_rng _),(U.mono x)⟩
    refine wc_exit (qe_then_exit (qe_then_exit ?_))
    cases oi ah
    cases bn _ u
    refine qe_block_eq ?_
    cases oi bl
    exact qd ⟨k,l,m,aA,u,V,(af.trans x),bo,(U.mono x)⟩
   rintro _ db ⟨O,R,S,T,rfl,aC,aD,aE,aF⟩
   refine qr (mv u (lv (rv_b2s underlying69 underlying5 underlying9 u aF aC) (mv u (fa ff183_0 u (ls [sv b.2,V6 (a.1.length:Int),V6 a.2,V6 0] (sv b.2) tf9 aC fun dc bX=>(fa ff183_3 u (ls [sv b.2,V6 (a.1.length:Int),V6 a.2,V6 b.1] (V6 b.1) tf3 bX fun dd aG=>(nq (wc_region ?_)))))))))
   refine mv u (lv (rv_loadmS (ds:=[sv b.2,V6 (a.1.length:Int),V6 a.2,V6 b.1]) tf183 u m0 aG u u) (lb tGWord (.agg #[sv b.2,V6 (a.1.length:Int),V6 a.2,V6 b.1]) [sv b.2,V6 (a.1.length:Int),V6 a.2,V6 b.1] (GWord.mk b.2 (a.1.length:Int) a.2 b.1) underlying180 tf183 ⟨u,(SliceAt.max aF),(H.mono (o.le.trans q.le)).rn,aq,aE⟩ aG fun de df dg aH bY bZ=>?_))
   obtain⟨dh,ca,cb⟩:=ob bj
   refine lp underlying180 tf183 (SliceAt.mono ((((o.le.trans q.le).trans aw).trans aD).trans aH) H) bY ca bZ.f2 fun cc cd ce di cf cg ch cj=>(av u (nb ?_))
   cases oi cb
   exact qd ⟨_,u,cc,cd,ce,cf,u,cj.s,((((((aa.trans o.le).trans q.le).trans aw).trans aD).trans aH).trans cg),ch,aE⟩
  refine wc_exit (qe_then_exit (qe_then_exit ?_))
  cases oi ab
  cases aS _ u
  refine qe_block_eq ?_
  cases oi aQ
  exact qd ⟨c,d,f,G,u,Y,aa,H⟩
 rintro _ dj ⟨A,B,C,D,rfl,ck,dk,cl⟩
 refine qr (mv u (av u (nq (wc_ret ?_))))
 cases oi aO
 exact ey results149 ⟨A,B,C,D,u,ck,cl⟩

theorem ok_impl_ruleAt {q0:GConf}{q1:List GTerm}{q2:Int}{r:(Option GSyn)}(hS:SH w K [] w K [])(ch:SliceAt tStr K A a b q0.Stops)(J:SliceAt tGSyn K B c d q0.Syns)(ac:SliceAt tGTerm K C f i q1)(cj:rng64 q2)(hm:M.impl_ruleAt F q0 q1 q2=some r):
  Calls prog 150 #[.agg #[V3 A a b,V3 B c d],V3 C f i,V6 q2] w fun e w'=>∃v_1 K',e= .returned (v_1)∧SH w K [] w' K' []∧PtrO tGSyn K' v_1 r:=by
 rw [M.impl_ruleAt] at hm
 refine ci func150 u ntmps150 (sr (bx u hS fun s ck ax=>?_))
 have ao:SH _ _ _ _ _ [obj s [V3 A a b,V3 B c d] 33]:=ax
 refine lv (rv_assign (v:=.pointer none) u) (nr (lv (rv_assign (v:=.pointer none) u) (nsr (fl ff33_1 u tf31 m0 ao u (lv (rv_len underlying31 u J) (lv (r_m u) (nq ?_)))))))
 obtain⟨ay,az,aA⟩:=ob hm
 refine wc_cutg (fun E' w'=>∃v25 O,E'=[(7,v25)]∧SH w K [] w' O []∧KLe K O∧PtrO tGSyn O v25 ay) ?_ ?_
 ·refine wc_block ?_
  obtain⟨cl,aB,aC⟩:=ob az
  refine qF (fun (R:Nat) (ad:(Option GSyn)) E' w'=>∃v36 G,E'=[(1,V3 C f i),(2,V6 q2),(3,pt s),(7,v36),(16,V6 (q0.Syns.length:Int)),(17,V6 ((R:Nat):Int))]∧SH w K [] w' G [obj s [V3 A a b,V3 B c d] 33]∧KLe K G∧PtrO tGSyn G v36 ad) aB ⟨(.pointer none),K,u,ao,kr,(show PtrO tGSyn _ _ none from u)⟩ ?_ ?_
  ·rintro R ad _ aD cm hi39 aE ⟨v36,G,rfl,U,x,hp37⟩
   refine sr (lv (rv_lss u u) (ns (wc_cond_t u (decide_eq_true (by omega)) (wc_skip (qe_seq (wc_seq (wc_block (sr (mv u (av u (nr (fl ff33_1 u tf31 m0 U u ?_))))))))))))
   refine mv u ?_
   obtain⟨ae,aF,aG⟩:=ob aE
   refine li underlying31 tf159 (J.mono x) aF fun H I cn aH aI=>?_
   obtain⟨V,W,X,rfl,y,aJ⟩:=aH
   have Y:AtK _ H I [V3 V W X,sv ae.To]:=aI
   refine av u (ns (wc_seq ?_))
   obtain⟨aK,aL,aM⟩:=ob aG
   refine wc_cutg (IV w K [] G [(1,V3 C f i),(2,V6 q2),(3,pt s),(7,v36),(9,.pointer (some ⟨H,I,none⟩)),(16,V6 (q0.Syns.length:Int)),(17,V6 ((R:Nat):Int)),(50,.bool aK)] [obj s [V3 A a b,V3 B c d] 33]) ?_ ?_
   ·refine wc_quiet mixed (by kernel_rfl) U (km u (kv (rv_nilCheck u) (kv (rv_fieldAddr ff159_0 u) (kh (rq_load1 tf22 u (Y 0 _ u)) (kv (rv_len underlying22 u y) (km u (kv (rv_len underlying109 u (ac.mono x)) (km u (kv (rv_sub u u) ?_)))))))))
    refine kv (rv_gtr u u) (km u (bt aL (fun o af=>?_) (fun o af=>?_)))
    ·refine kn o (kn o (kn o ?_))
     iterate 11 refine ku ?_
     refine kn o (kv (p_t u o u) (wq_nil ?_))
     rintro cp ⟨aN,aO,aP⟩
     cases oi af
     exact qd ⟨aN,u,aO,aP⟩
    refine kg o (rv_move u) (kg o (rv_pnotnil underlying184 u u hp37) (kg o (rv_move u) (bt af (fun k ag=>?_) (fun k ag=>?_))))
    ·refine kg k (rv_move u) (kg k (rv_nilCheck u) (kg k (rv_fieldAddr ff159_0 u) (kgh k (rq_load1 tf22 u (Y 0 _ u)) (kg k (rv_len underlying22 u y) (kg k (rv_move u) ?_)))))
     obtain⟨aQ,aR,aS⟩:=ob ag
     obtain⟨aT,aU,cq,rfl,aV,aW⟩:=PtrO.get hp37 aR
     obtain⟨aX,aY,aZ,rfl,ba,cr⟩:=aV
     have bb:AtK _ aT aU [V3 aX aY aZ,sv aQ.To]:=aW
     refine kg k (rv_nilCheck u) (kg k (rv_fieldAddr ff159_0 u) (kgh k (rq_load1 tf22 u (bb 0 _ u)) (kg k (rv_len underlying22 u ba) (kg k (rv_leq u u) (kg o (rv_pick_t u k u) (kv (rv_pick_f u o u) (wq_nil ?_)))))))
     rintro cs ⟨bc,bd,be⟩
     cases oi aS
     exact qd ⟨bc,u,bd,be⟩
    iterate 11 refine kn k ?_
    refine kg o (p_f u k u) (kv (rv_pick_f u o u) (wq_nil ?_))
    rintro ct ⟨bf,bg,bh⟩
    cases oi ag
    exact qd ⟨bf,u,bg,bh⟩
   rintro _ cu ⟨aa,rfl,ah,l⟩
   refine qe_seq (wcc aM u (fun bi ai=>?_) (fun bi ai=>?_))
   ·refine wc_exit (qe_then_exit (qe_block_eq (qg (lv (rv_add_to u u (w64_succ hi39 (SliceAt.max J))) (mv u (wl_nil ?_))))))
    cases oi ai
    exact qd ⟨v36,aa,u,ah,(x.trans l),(PtrO.mono l hp37)⟩
   refine wc_skip (qr (lv (r_t u) (nsr (mv u (lv (rv_nilCheck u) (fa ff159_0 u (lv (rv_load1 tf22 u ah ((AtK.mono l Y) 0 _ u)) (lv (rv_len underlying22 u (y.mono l)) (lv (r_m u) ?_)))))))))
   refine nq ?_
   obtain⟨bj,bk,bl⟩:=ob ai
   refine wc_cutg (IV w K [] aa [(1,V3 C f i),(2,V6 q2),(3,pt s),(7,v36),(9,.pointer (some ⟨H,I,none⟩)),(10,.bool bj),(16,V6 (q0.Syns.length:Int)),(17,V6 ((R:Nat):Int))] [obj s [V3 A a b,V3 B c d] 33]) ?_ ?_
   ·refine wc_block ?_
    obtain⟨cv,bm,bn⟩:=ob bk
    refine qF (fun (ap:Nat) (aj:Bool)=>IV w K [] aa [(1,V3 C f i),(2,V6 q2),(3,pt s),(7,v36),(9,.pointer (some ⟨H,I,none⟩)),(10,.bool aj),(16,V6 (q0.Syns.length:Int)),(17,V6 ((R:Nat):Int)),(54,V3 V W X),(55,V6 (ae.From.length:Int)),(56,V6 ((ap:Nat):Int))] [obj s [V3 A a b,V3 B c d] 33]) bm ⟨aa,u,ah,kr⟩ ?_ ?_
    ·rintro ap aj _ bo cw hi112 bp ⟨aq,rfl,S,D⟩
     refine sr (lv (rv_lss u u) (ns (wc_cond_t u (decide_eq_true (by omega)) (wc_skip (qe_seq (wc_seq (wc_block (sr (mv u ?_)))))))))
     obtain⟨bq,br,bs⟩:=ob bp
     refine li underlying22 tf9 (y.mono (l.trans D)) br fun bu bv cx bz bA=>?_
     obtain⟨rfl,cy⟩:=bz
     have bB:AtK _ bu bv [sv bq]:=bA
     refine lv (rv_load1 tf9 u S (bB 0 _ u)) (av u (av u (nr (mv u (mv u (mv u (lv (rv_add u u) ?_)))))))
     obtain⟨ab,bC,bD⟩:=ob bs
     refine li underlying109 tf112 (ac.mono ((x.trans l).trans D)) bC fun bE bF cz bG bH=>?_
     obtain⟨rfl,cA,cB⟩:=bG
     have bI:AtK _ bE bF [sv ab.Text,V6 ab.At]:=bH
     refine lv (rv_loadS tf112 u S bI u) (al tf112 S fun bJ cC bK=>?_)
     have bL:SH _ _ _ _ _ [obj bJ [sv [],V6 0] 112,_]:=bK
     refine lw [sv ab.Text,V6 ab.At] tf112 bL fun cD bM=>(nq (wc_quiet mixed (by kernel_rfl) bM (km u (km u (bt bD (fun q ak=>?_) (fun q ak=>?_))))))
     ·refine kg q (rv_fieldAddr ff112_0 u) (kgh q (rq_loadm1 tf9 u m0 u) (kg q (rv_move u) (kg q (rv_seql u u) (kv (rv_pick_t u q u) (km u (bt ak (fun m am=>?_) (fun m am=>?_)))))))
      ·refine kg m (rv_fieldAddr ff112_1 u) (kgh m (rq_loadm1 tf3 u m0 u) (kg m (rv_move u) (kg m (rv_move u) ?_)))
       obtain⟨ar,bN,bO⟩:=ob am
       refine wq_indexAddr (t:=tGTerm) (wg u u m) u underlying109 tf112 u u (ac.mono ((x.trans l).trans D)) bN fun bP bQ cE bR bS=>?_
       obtain⟨rfl,cF,cG⟩:=bR
       have bT:AtK _ bP bQ [sv ar.Text,V6 ar.At]:=bS
       refine kg m (rv_fieldAddr ff112_1 u) (kgh m (rq_load1 tf3 u (bT 1 _ u)) (kg m (rv_move u) (kg m (rv_add u u) (kg m (rv_eql u u) (kv (rv_pick_t u m u) (kv (rv_assign u) (wq_nil ?_)))))))
       rintro cH ⟨bU,bV,bW⟩
       refine qe_block (qg (lv (rv_add_to u u (w64_succ hi112 (SliceAt.max (y.mono l)))) (mv u (wl_nil ?_))))
       cases oi bO
       exact qd ⟨bU,u,bV.s,(D.trans bW)⟩
      iterate 10 refine kn m ?_
      refine kv (p_f u m u) (kv (rv_assign u) (wq_nil ?_))
      rintro cI ⟨bX,bY,bZ⟩
      refine qe_block (qg (lv (rv_add_to u u (w64_succ hi112 (SliceAt.max (y.mono l)))) (mv u (wl_nil ?_))))
      cases oi am
      exact qd ⟨bX,u,bY.s,(D.trans bZ)⟩
     refine kn q (kn q (kn q (kn q (kv (p_f u q u) (km u ?_)))))
     iterate 10 refine qv u u u u ?_
     refine kv (p_f u u u) (kv (rv_assign u) (wq_nil ?_))
     rintro cJ ⟨ca,cb,cc⟩
     refine qe_block (qg (lv (rv_add_to u u (w64_succ hi112 (SliceAt.max (y.mono l)))) (mv u (wl_nil ?_))))
     cases oi ak
     exact qd ⟨ca,u,cb.s,(D.trans cc)⟩
    rintro aj _ bo cd ⟨aq,rfl,S,D⟩
    subst cd
    refine sr (lv (rv_lss u u) (ns (wc_cond_f u (decide_eq_false (by omega)) (wc_exit (qe_then_exit (qe_then_exit (qe_block_eq ?_)))))))
    cases oi bn
    exact qd ⟨aq,u,S,D⟩
   rintro _ cK ⟨au,rfl,aw,T⟩
   refine qr (mv u (nq (wcc bl u (fun ce an=>?_) (fun ce an=>?_))))
   ·refine wc_region (mv u (av u (nb (qg (lv (rv_add_to u u (w64_succ hi39 (SliceAt.max J))) (mv u (wl_nil ?_)))))))
    cases oi an
    exact qd ⟨(.pointer (some ⟨H,I,none⟩)),au,u,aw,((x.trans l).trans T),⟨H,I,.agg #[V3 V W X,sv ae.To],u,⟨V,W,X,u,(y.mono (l.trans T)),aJ⟩,(AtK.mono (l.trans T) Y)⟩⟩
   refine wc_skip (qe_block (qg (lv (rv_add_to u u (w64_succ hi39 (SliceAt.max J))) (mv u (wl_nil ?_)))))
   cases oi an
   exact qd ⟨v36,au,u,aw,((x.trans l).trans T),(PtrO.mono (l.trans T) hp37)⟩
  rintro ad _ aD cf ⟨v36,G,rfl,U,x,hp37⟩
  subst cf
  refine sr (lv (rv_lss u u) (ns (wc_cond_f u (decide_eq_false (by omega)) (wc_exit (qe_then_exit (qe_then_exit (qe_block_eq ?_)))))))
  cases oi aC
  exact qd ⟨v36,G,u,U.s,x,hp37⟩
 rintro _ cL ⟨v25,O,rfl,cg,cM,hp26⟩
 refine qr (mv u (av u (nq (wc_ret ?_))))
 cases oi aA
 exact ey results150 ⟨v25,O,u,cg,hp26⟩

theorem ok_impl_TermsOf {q0:GConf}{q1:Str}{r:(List GTerm)}(hS:SH w K [] w K [])(aj:SliceAt tStr K A a b q0.Stops)(aS:SliceAt tGSyn K B c d q0.Syns)(aT:q1.length≤maxLen)(hm:M.impl_TermsOf F q0 q1=some r):
  Calls prog 73 #[.agg #[V3 A a b,V3 B c d],sv q1] w fun e w'=>∃a_1 n_2 c_3 K',e= .returned (V3 a_1 n_2 c_3)∧SH w K [] w' K' [tail (V3 a_1 n_2 c_3) 112 2]∧SliceAt tGTerm K' a_1 n_2 c_3 r:=by
 rw [M.impl_TermsOf] at hm
 refine ci func73 u ntmps73 (sr (bx u hS fun i dR bk=>?_))
 have bl:SH _ _ _ _ _ [obj i [V3 A a b,V3 B c d] 33]:=bk
 refine lv (r_n u) (nr (b0 tGTerm underlying109 tf112 bl fun k dS bm J aU az=>(av u (ns (wc_seq ?_)))))
 obtain⟨bn,bo,bp⟩:=ob hm
 refine wc_cutg (IV w K [] bm [(1,sv q1),(2,pt i),(5,V3 k 0 0),(20,.bool bn)] [obj i [V3 A a b,V3 B c d] 33,tail (V3 k 0 0) 112 2]) ?_ ?_
 ·refine wc_region (lv (rv_loadmS (ds:=[V3 A a b,V3 B c d]) tf33 u m1 az u u) ?_)
  obtain⟨dT,bq,br⟩:=ob bo
  refine lk co59 (ok_impl_ConfOk F az.enter0 (aj.mono J) (aS.mono J) bq) ?_
  rintro dU dV ⟨bs,rfl,aA⟩
  have aB:=(az.c0 aA).t2
  refine lv (rv_not u) (mv u (bt br (fun l aC=>?_) (fun l aC=>?_)))
  ·refine lu l (lu l (lu l (lv (p_t u l u) (wl_nil ?_))))
   cases oi aC
   exact qd ⟨bs,u,aB.f1,aA.le⟩
  refine lg l (rv_move u) ?_
  obtain⟨dW,bu,bv⟩:=ob aC
  refine wl_call (wg u u l) u (rt_call (vs:=[sv q1]) co148 u) (ok_impl_TextOk F aB.enter0 aT bu) ?_
  rintro dX dY ⟨bz,rfl,aV⟩
  refine⟨_,u,?_⟩
  have bA:=(aB.c0 aV).t2
  refine lg l (rv_not u) (lv (rv_pick_f u l u) (wl_nil ?_))
  cases oi bv
  exact qd ⟨bz,u,bA.f1,(aA.le.trans aV.le)⟩
 rintro _ dZ ⟨bB,rfl,aW,O⟩
 refine qe_seq (wcc bp u (fun bC aD=>?_) (fun bC aD=>?_))
 ·refine sr (mv u (av u (nq (rr ?_))))
  cases oi aD
  exact ey results73 ⟨k,0,0,bB,u,aW.s,(aU.mono O)⟩
 refine wc_skip (qr (b0 tGTerm underlying109 tf112 aW fun bD ea eb Y bE aX=>(av u (nsr (mv u ?_)))))
 obtain⟨aY,bF,bG⟩:=ob aD
 refine lk co149 (ok_impl_WordsOf F aX.enter0 aT bF) ?_
 rintro ec ed ⟨aZ,ba,bb,aE,rfl,y,ak⟩
 have bH:=(aX.c0 y).t4
 refine lv (rv_len underlying180 u ak) (lv (r_m u) (nq ?_))
 obtain⟨bI,bJ,bK⟩:=ob bG
 refine wc_cutg (fun E' w'=>∃R S T C,E'=[(2,pt i),(5,V3 k 0 0),(6,V3 R S T)]∧SH w K [] w' C [obj i [V3 A a b,V3 B c d] 33,tail (V3 k 0 0) 112 2,tail (V3 R S T) 112 2]∧KLe aE C∧SliceAt tGTerm C R S T bI) ?_ ?_
 ·refine wc_block ?_
  obtain⟨ee,bL,bM⟩:=ob bJ
  have bN:=bH.f1.f3.f3.sb (sk (sk (sk (sd sz))))
  refine qF (fun (aF:Nat) (aG:(List GTerm)) E' w'=>∃m o q U,E'=[(2,pt i),(5,V3 k 0 0),(6,V3 m o q),(24,V3 aZ ba bb),(25,V6 (aY.length:Int)),(26,V6 ((aF:Nat):Int))]∧SH w K [] w' U [obj i [V3 A a b,V3 B c d] 33,tail (V3 k 0 0) 112 2,tail (V3 m o q) 112 2]∧KLe aE U∧SliceAt tGTerm U m o q aG) bL ⟨bD,0,0,aE,u,bN,kr,(bE.mono y.le)⟩ ?_ ?_
  ·rintro aF aG _ bO ef hi97 bP ⟨m,o,q,U,rfl,am,D,an⟩
   refine sr (lv (rv_lss u u) (ns (wc_cond_t u (decide_eq_true (by omega)) (wc_skip (qe_seq (wc_seq (wc_block (sr ?_))))))))
   obtain⟨f,bQ,bR⟩:=ob bP
   refine li underlying180 tf183 (ak.mono D) bQ fun bS bT eg bU bV=>?_
   obtain⟨rfl,bc,bW,eh,ei⟩:=bU
   have bX:AtK _ bS bT [sv f.Text,V6 f.At,V6 f.From,V6 f.To]:=bV
   refine lv (rv_loadS tf183 u am bX u) (al tf183 am fun aH ej bY=>?_)
   have bZ:SH _ _ _ _ _ [obj aH [sv [],V6 0,V6 0,V6 0] 183,_,_,_]:=bY
   refine lw [sv f.Text,V6 f.At,V6 f.From,V6 f.To] tf183 bZ fun ek aI=>(nr (fl ff183_0 u tf9 m0 aI u ?_))
   obtain⟨V,ca,cb⟩:=ob bR
   refine lk co124 (ok_impl_StemOf F aI.enter0 bc ca) ?_
   rintro el em ⟨cc,rfl,G,bd⟩
   have ao:=(aI.c0 G).t4
   refine av u (ns ?_)
   obtain⟨cd,ce,cf⟩:=ob cb
   refine wc_cutg (IV w K [] cc [(2,pt i),(5,V3 k 0 0),(6,V3 m o q),(8,pt aH),(9,sv V),(24,V3 aZ ba bb),(25,V6 (aY.length:Int)),(26,V6 ((aF:Nat):Int)),(45,.bool cd)] [obj i [V3 A a b,V3 B c d] 33,obj aH [sv f.Text,V6 f.At,V6 f.From,V6 f.To] 183,tail (V3 k 0 0) 112 2,tail (V3 m o q) 112 2]) ?_ ?_
   ·refine wc_region (fl ff33_0 u tf22 m1 ao u (fl ff183_0 u tf9 m0 ao u ?_))
    obtain⟨en,cg,ch⟩:=ob ce
    refine lk co125 (ok_slices_Contains_string F ao.enter0 (SliceAt.mono (((((J.trans O).trans Y).trans y.le).trans D).trans G.le) aj) bc cg) ?_
    rintro eo ep ⟨cj,rfl,ap⟩
    have aq:=(ao.c0 ap).t4
    refine lv (rv_not u) (mv u (bt ch (fun s aJ=>?_) (fun s aJ=>?_)))
    ·refine lg s (rv_fieldAddr ff33_0 u) (lg s (rv_loadm1 tf22 u m1 aq u) (lg s (rv_move u) ?_))
     obtain⟨eq,ck,cl⟩:=ob aJ
     refine wl_call (wg u u s) u (rt_call (vs:=[V3 A a b,sv V]) co125 u) (ok_slices_Contains_string F aq.enter0 (SliceAt.mono ((((((J.trans O).trans Y).trans y.le).trans D).trans G.le).trans ap.le) aj) bd ck) ?_
     rintro es et ⟨cm,rfl,be⟩
     refine⟨_,u,?_⟩
     have cn:=(aq.c0 be).t4
     refine lg s (rv_not u) (lv (rv_pick_t u s u) (wl_nil ?_))
     cases oi cl
     exact qd ⟨cm,u,cn.f3.f3.f2.f3,(ap.le.trans be.le)⟩
    iterate 5 refine lu s ?_
    refine lv (p_f u s u) (wl_nil ?_)
    cases oi aJ
    exact qd ⟨cj,u,aq.f3.f3.f2.f3,ap.le⟩
   rintro _ eu ⟨cp,rfl,aK,ar⟩
   refine qe_seq (wcc cf u (fun cq aL=>?_) (fun cq aL=>?_))
   ·refine wc_region (mv u (mv u (fl ff183_1 u tf3 m1 aK u (lv (rv_build (cs:=#[sv V,V6 f.At]) sp112 tf112 u (by kernel_rfl)) (lb tGTerm (.agg #[sv V,V6 f.At]) [sv V,V6 f.At] (GTerm.mk V f.At) underlying109 tf112 ⟨u,bd,bW⟩ aK fun ev ew ex bf cr ct=>?_)))))
    obtain⟨eA,cu,cv⟩:=ob aL
    refine lp underlying109 tf112 (an.mono ((G.le.trans ar).trans bf)) cr cu ct.f4 fun cw cx cy eB cz cA cB cC=>(av u (nb (qg (lv (rv_add_to u u (w64_succ hi97 (SliceAt.max ak))) (mv u (wl_nil ?_))))))
    cases oi cv
    exact qd ⟨cw,cx,cy,cz,u,cC.f4.f3.s,((((D.trans G.le).trans ar).trans bf).trans cA),cB⟩
   refine wc_skip (qe_block (qg (lv (rv_add_to u u (w64_succ hi97 (SliceAt.max ak))) (mv u (wl_nil ?_)))))
   cases oi aL
   exact qd ⟨m,o,q,cp,u,aK.s,((D.trans G.le).trans ar),(an.mono (G.le.trans ar))⟩
  rintro aG _ bO cD ⟨m,o,q,U,rfl,am,D,an⟩
  subst cD
  refine sr (lv (rv_lss u u) (ns (wc_cond_f u (decide_eq_false (by omega)) (wc_exit (qe_then_exit (qe_then_exit (qe_block_eq ?_)))))))
  cases oi bM
  exact qd ⟨m,o,q,U,u,am,D,an⟩
 rintro _ eC ⟨R,S,T,C,rfl,cE,aM,au⟩
 refine qs (sr (lv (r_0 u) (nq ?_)))
 obtain⟨cF,cG,cH⟩:=ob bK
 refine wc_cutg (fun E' w'=>∃aa ab ac ad,E'=[(5,V3 aa ab ac)]∧SH w K [] w' ad [tail (V3 aa ab ac) 112 2]∧KLe C ad∧SliceAt tGTerm ad aa ab ac cF) ?_ ?_
 ·refine wc_block ?_
  obtain⟨eD,cI,cJ⟩:=ob cG
  refine qw (fun (aw:(List GTerm)×Int) E' w'=>∃ae af ag ah,E'=[(2,pt i),(5,V3 ae af ag),(6,V3 R S T),(10,V6 aw.2)]∧SH w K [] w' ah [obj i [V3 A a b,V3 B c d] 33,tail (V3 ae af ag) 112 2,tail (V3 R S T) 112 2]∧KLe C ah∧SliceAt tGTerm ah ae af ag aw.1∧rng64 aw.2) cI ⟨k,0,0,C,u,cE,kr,(SliceAt.mono (((O.trans Y).trans y.le).trans aM) aU),d_0⟩ ?_
  rintro aw _ eE eF cK cL ⟨ae,af,ag,ah,rfl,ax,x,aN,cM⟩
  refine wc_seq (sr (mv u (mv u (lv (rv_len underlying109 u (au.mono x)) (lv (rv_lss u u) (nq (wcc cK u (fun cN aO=>?_) (fun cN aO=>?_))))))))
  ·refine wc_skip (qe_seq (wc_block (sr (lv (rv_loadmS (ds:=[V3 A a b,V3 B c d]) tf33 u m0 ax u u) (mv u (mv u ?_))))))
   obtain⟨eG,cO,cP⟩:=ob aO
   refine lk co150 (ok_impl_ruleAt F ax.enter0 (SliceAt.mono (((((J.trans O).trans Y).trans y.le).trans aM).trans x) aj) (SliceAt.mono (((((J.trans O).trans Y).trans y.le).trans aM).trans x) aS) (au.mono x) cM cO) ?_
   rintro eH eI ⟨v221,cQ,rfl,H,hp222⟩
   have aP:=(ax.c0 H).t3
   refine av u (nsr (mv u (lv (rv_pnil underlying184 u u hp222) (nq (wcc cP u (fun cR aQ=>?_) (fun cR aQ=>?_))))))
   ·refine sr (mv u (mv u (mv u ?_)))
    obtain⟨I,cS,cT⟩:=ob aQ
    refine li underlying109 tf112 (au.mono (x.trans H.le)) cS fun cU cV eJ cW cX=>?_
    obtain⟨rfl,cY,cZ⟩:=cW
    have da:AtK _ cU cV [sv I.Text,V6 I.At]:=cX
    refine lv (rv_loadS tf112 u aP da u) (lb tGTerm (.agg #[sv I.Text,V6 I.At]) [sv I.Text,V6 I.At] I underlying109 tf112 ⟨u,cY,cZ⟩ aP fun eK eL eM bg db dc=>?_)
    obtain⟨eN,dd,de⟩:=ob cT
    refine lp underlying109 tf112 (aN.mono (H.le.trans bg)) db dd dc.f2 fun df dg dh eO di dj dk dl=>(av u (nr (mv u (lv (rv_add u u) (av u (nq (wc_exit (qe_then_exit (qe_block_eq ?_)))))))))
    cases oi de
    exact qd ⟨_,u,df,dg,dh,di,u,dl.f3.f1.f3.s,(((x.trans H.le).trans bg).trans dj),dk,(w64_rng _)⟩
   refine wc_skip (qs ?_)
   have bh:=aP.drew
   refine wh1 (fun w'=>Holds cQ w') (fun w'=>True) 14 [] mixed (bh.hasK kr) (fun _=>trivial) (gt (rv_move u) (gt (rv_move u) ?_))
   obtain⟨ai,dm,dn⟩:=ob aQ
   obtain⟨dp,dq,eP,rfl,dr,dt⟩:=PtrO.get hp222 dm
   obtain⟨du,dv,dw,rfl,dx,dy⟩:=dr
   have bi:AtK _ dp dq [V3 du dv dw,sv ai.To]:=dt
   refine gt (rv_nilCheck u) (gt (rv_fieldAddr ff159_1 u) (gh (fun _ h=>rh_load1 tf9 u (bi 1 _ u) h) (gt (rv_move u) (gt (rv_move u) ?_))))
   obtain⟨W,dz,dA⟩:=ob dn
   refine gi underlying109 tf112 (au.mono (x.trans H.le)) dz fun dB dC eQ dD dE=>?_
   obtain⟨rfl,eR,dF⟩:=dD
   have dG:AtK _ dB dC [sv W.Text,V6 W.At]:=dE
   refine gt (rv_fieldAddr ff112_1 u) (gh (fun _ h=>rh_load1 tf3 u (dG 1 _ u) h) (gt (rv_build (cs:=#[sv ai.To,V6 W.At]) sp112 tf112 u (by kernel_rfl)) (gn (lb tGTerm (.agg #[sv ai.To,V6 W.At]) [sv ai.To,V6 W.At] (GTerm.mk ai.To W.At) underlying109 tf112 ⟨u,dy,dF⟩ bh fun eS eT eU X dH bj=>(wl_nil (qh (bj.hasK X) (fun _=>trivial) (gn ?_)))))))
   obtain⟨eV,dI,dJ⟩:=ob dA
   refine lp underlying109 tf112 (aN.mono (H.le.trans X)) dH dI bj.f2 fun dK dL dM eW dN ay dO aR=>(wl_nil (qh (aR.hasK (X.trans ay)) (fun _=>trivial) (gt (rv_assign u) (gd' (qe_seq (wc_region (mv u (mv u (lv (rv_nilCheck u) (fa ff159_0 u ?_))))))))))
   refine lv (rv_load1 tf22 u aR ((AtK.mono (X.trans ay) bi) 0 _ u)) (lv (rv_len underlying22 u (dx.mono (X.trans ay))) (lv (rv_add u u) (av u (nb ?_))))
   cases oi dJ
   exact qd ⟨_,u,dK,dL,dM,dN,u,aR.f3.f1.f3.s,(((x.trans H.le).trans X).trans ay),dO,(w64_rng _)⟩
  refine wc_exit (qe_then_exit (qe_then_exit ?_))
  cases oi aO
  cases cL _ u
  refine qe_block_eq ?_
  cases oi cJ
  exact qd ⟨ae,af,ag,ah,u,ax.s,x,aN⟩
 rintro _ eX ⟨aa,ab,ac,ad,rfl,dP,eY,dQ⟩
 refine qr (mv u (av u (nq (wc_ret ?_))))
 cases oi cH
 exact ey results73 ⟨aa,ab,ac,ad,u,dP,dQ⟩

theorem ok_impl_Seg_put_1 {q0:GEntry}{q1:Str}{q2:GTerm}{r:Bool}(hS:SH w K Z w K [obj c [sv q1] 9,obj d [sv q2.Text,V6 q2.At] 112])(o:q0.Field.length≤maxLen)(q:q0.Term.length≤maxLen)(s:SliceAt tGPost K A a b q0.Posts)(x:q1.length≤maxLen)(y:q2.Text.length≤maxLen)(B:rng64 q2.At)(hm:M.impl_Seg_put_1 F q0 q1 q2=some r):
  Calls prog 152 #[.agg #[sv q0.Field,sv q0.Term,V3 A a b],.pointer (some ⟨c,0,none⟩),.pointer (some ⟨d,0,none⟩)] w fun e w'=>∃K',e= .returned (.bool r)∧SH w K Z w' K' [obj c [sv q1] 9,obj d [sv q2.Text,V6 q2.At] 112]:=by
 rw [M.impl_Seg_put_1] at hm
 refine ci func152 u ntmps152 (sr (bx u hS fun l C m=>?_))
 have i:SH _ _ _ _ _ [obj l [sv q0.Field,sv q0.Term,V3 A a b] 116,_,_]:=m
 refine lv (r_f u) (nr (fl ff116_0 u tf9 m0 i u (lv (rv_loadm1 tf9 u m1 i u) (lv (rv_seql u u) (mv u (bt hm (fun f k=>?_) (fun f k=>?_)))))))
 ·refine lg f (rv_fieldAddr ff116_1 u) (lg f (rv_loadm1 tf9 u m0 i u) (lg f (rv_fieldAddr ff112_0 u) (lg f (rv_loadm1 tf9 u m2 i u) (lg f (rv_seql u u) (lv (rv_pick_t u f u) (av u (nq (wc_ret ?_))))))))
  cases oi k
  exact ey results152 ⟨K,u,i.s⟩
 iterate 5 refine lu f ?_
 refine lv (p_f u f u) (av u (nq (wc_ret ?_)))
 cases oi k
 exact ey results152 ⟨K,u,i.s⟩

theorem ok_slices_IndexFunc_Entry__impl_Seg_put_1 {q0:List GEntry}{q1c0:Str}{q1c1:GTerm}{r:Int}(hS:SH w K Z w K [obj c [sv q1c0] 9,obj d [sv q1c1.Text,V6 q1c1.At] 112])(f:SliceAt tGEntry K A a b q0)(O:q1c0.length≤maxLen)(R:q1c1.Text.length≤maxLen)(S:rng64 q1c1.At)(hm:M.slices_IndexFunc_Entry__impl_Seg_put_1 F q0 q1c0 q1c1=some r):
  Calls prog 151 #[V3 A a b,.func (.func 152) #[] #[.pointer (some ⟨c,0,none⟩),.pointer (some ⟨d,0,none⟩)]] w fun e w'=>∃K',e= .returned (V6 r)∧SH w K Z w' K' [obj c [sv q1c0] 9,obj d [sv q1c1.Text,V6 q1c1.At] 112]∧rng64 r:=by
 rw [M.slices_IndexFunc_Entry__impl_Seg_put_1] at hm
 refine ci func151 u ntmps151 (sr (lv (r_0 u) (nsr (mv u (lv (rv_len underlying44 u f) (lv (r_m u) (nq ?_)))))))
 obtain⟨T,U,i⟩:=ob hm
 refine wc_cutg (IE T w K Z K [] [obj c [sv q1c0] 9,obj d [sv q1c1.Text,V6 q1c1.At] 112]) ?_ ?_
 ·refine wc_block ?_
  obtain⟨aq,V,q⟩:=ob U
  refine qf (fun (s:Nat) (x:Unit)=>IV w K Z K [(0,V3 A a b),(1,.func (.func 152) #[] #[pt c,pt d]),(7,V6 (q0.length:Int)),(8,V6 ((s:Nat):Int))] [obj c [sv q1c0] 9,obj d [sv q1c1.Text,V6 q1c1.At] 112]) V ⟨K,u,hS,kr⟩ ?_ ?_
  ·rintro s x _ W ar hi29 X Y ⟨y,rfl,k,l⟩
   refine sr (lv (rv_lss u u) (ns (wc_cond_t u (decide_eq_true (by omega)) (wc_skip (qe_seq (wc_seq (wc_block (sr (mv u (av u (nr (mv u ?_))))))))))))
   refine mv u (mv u ?_)
   obtain⟨m,aa,ab⟩:=ob X
   refine li underlying44 tf116 (f.mono l) aa fun ac ad au ae af=>?_
   obtain⟨B,C,D,rfl,ag,ah,ai⟩:=ae
   have aj:AtK _ ac ad [sv m.Field,sv m.Term,V3 B C D]:=af
   refine lv (rv_loadS tf116 u k aj u) ?_
   obtain⟨aw,ak,al⟩:=ob ab
   have G:=k.f1.f1
   refine wl_call wn u (rt_callv (vs:=[.agg #[sv m.Field,sv m.Term,V3 B C D]]) (cap:=#[pt c,pt d]) co152 u u) (ok_impl_Seg_put_1 F G.e2 ag ah ai O R S ak) ?_
   rintro ax ay ⟨H,rfl,I⟩
   refine⟨_,u,?_⟩
   have J:=(G.c2 I).t2
   refine nq (wcc al u (fun am o=>?_) (fun am o=>?_))
   ·refine sr (mv u (av u (nq (wc_ret (qe_block_ret (qe_then_ret (qe_then_ret ?_)))))))
    cases oi o
    cases Y _ u
    refine qe_block_ret (qe_then_ret ?_)
    cases oi q
    refine qe_then_ret ?_
    cases oi i
    exact ey results151 ⟨H,u,J,(rng_idx hi29 (SliceAt.max f))⟩
   refine wc_skip (qe_block (qg (lv (rv_add_to u u (w64_succ hi29 (SliceAt.max f))) (mv u (wl_nil ?_)))))
   cases oi o
   exact qd ⟨_,u,H,u,J,(l.trans I.le)⟩
  rintro x _ W an ⟨y,rfl,k,l⟩
  subst an
  refine sr (lv (rv_lss u u) (ns (wc_cond_f u (decide_eq_false (by omega)) (wc_exit (qe_then_exit (qe_then_exit (qe_block_eq ?_)))))))
  cases oi q
  exact qe_mid' ⟨_,y,u,u,k,l⟩ trivial
 rintro _ az ⟨aA,ao,rfl,rfl,ap,aB⟩
 have i:=elim_l i
 refine qr (lv (rv_assign (v:=V6 (-1)) u) (nq (wc_ret ?_)))
 cases oi i
 exact ey results151 ⟨ao,u,ap,(by decide :rng64 (-1))⟩

theorem ok_impl_Seg_put {g:Nat}{a:Option Addr}{n:Nat}{c:Nat}{lay:List ELay}{q0:GSeg}{q1:Str}{q2:GTerm}{q3:Int}{r:GSeg}(aJ:SH w K (List.flatMap Item.gs [obj g [V3 A b d,V3 a n c] 46,pack (segItems 116 134 3 a n c lay)]) w K [obj g [V3 A b d,V3 a n c] 46,pack (segItems 116 134 3 a n c lay)])(aK:SliceAt tGDoc K A b d q0.Docs)(U:LayOk lay q0.Entries)(ap:q1.length≤maxLen)(aq:q2.Text.length≤maxLen)(ag:rng64 q2.At)(aL:rng64 q3)(hm:M.impl_Seg_put F q0 q1 q2 q3=some r):
  Calls prog 74 #[.pointer (some ⟨g,0,none⟩),sv q1,.agg #[sv q2.Text,V6 q2.At],V6 q3] w fun e w'=>∃a_1 n_2 c_3 a_4 n_5 c_6 lay_7 K',e= .returned (.tuple #[])∧SH w K (List.flatMap Item.gs [obj g [V3 A b d,V3 a n c] 46,pack (segItems 116 134 3 a n c lay)]) w' K' [obj g [V3 a_1 n_2 c_3,V3 a_4 n_5 c_6] 46,pack (segItems 116 134 3 a_4 n_5 c_6 lay_7)]∧SliceAt tGDoc K' a_1 n_2 c_3 r.Docs∧LayOk lay_7 r.Entries:=by
 rw [M.impl_Seg_put] at hm
 obtain⟨k,aM,h1⟩:=ob hm
 obtain⟨es,B,h2⟩:=ob h1
 obtain⟨en,ar,h3⟩:=ob h2
 obtain⟨ps,C,h4⟩:=ob h3
 obtain⟨p,ah,h5⟩:=ob h4
 obtain⟨at_,V,h6⟩:=ob h5
 cases oi h6
 have aT:SH w K (List.flatMap Item.gs [obj g [V3 A b d,V3 a n c] 46,pack (segItems 116 134 3 a n c lay)]) w K (segTop 116 a n c lay::((lay).flatMap (ELay.items 134 3)++[obj g [V3 A b d,V3 a n c] 46])):=(aJ.perm (List.Perm.swap _ _ _)).unpack
 have aU:SH w K (List.flatMap Item.gs [obj g [V3 A b d,V3 a n c] 46,pack (segItems 116 134 3 a n c lay)]) w K (obj g [V3 A b d,V3 a n c] 46::segTop 116 a n c lay::(lay).flatMap (ELay.items 134 3)):=aT.perm (by rw [←List.cons_append];exact List.perm_append_singleton _ _ |>.symm)
 generalize hMM:(List.flatMap Item.gs [obj g [V3 A b d,V3 a n c] 46,pack (segItems 116 134 3 a n c lay)])=MM at *
 refine ci func74 rfl ntmps74 (sr (bx rfl aU fun i w5 hS3'=>?_))
 have aW:SH w K MM w5 K (obj i [sv q1] 9::obj g [V3 A b d,V3 a n c] 46::segTop 116 a n c lay::(lay).flatMap (ELay.items 134 3)):=hS3'
 refine bx rfl aW fun f w6 hS4'=>?_
 have au:SH w K MM w6 K (obj f [sv q2.Text,V6 q2.At] 112::obj i [sv q1] 9::obj g [V3 A b d,V3 a n c] 46::segTop 116 a n c lay::(lay).flatMap (ELay.items 134 3)):=hS4'
 refine nr (mv rfl (lv (rv_nilCheck rfl) (fl ff46_1 rfl tf44 m2 au rfl (lv (rv_makeFunc (vs:=[pt i,pt f]) rfl) ?_))))
 obtain⟨gs,hgs⟩: ∃gs,gs=(segTop 116 a n c lay::(lay).flatMap (ELay.items 134 3)).flatMap Item.gs:=⟨_,rfl⟩
 have s:SH w K MM w6 K ([obj i [sv q1] 9,obj f [sv q2.Text,V6 q2.At] 112]++(obj g [V3 A b d,V3 a n c] 46::segTop 116 a n c lay::(lay).flatMap (ELay.items 134 3))):=au.perm (List.Perm.swap _ _ _)
 have hnd:=s.nodup
 rw [List.flatMap_append,List.nodup_append,List.flatMap_cons] at hnd
 have hg56:i∉gs∧f∉gs:=by
  rw [hgs]
  exact⟨fun hb=>hnd.2.2 i (by simp [obj,Go.Fk.one]) i (List.mem_append_right _ hb) rfl,fun hb=>hnd.2.2 f (by simp [obj,Go.Fk.one]) f (List.mem_append_right _ hb) rfl⟩
 have hseg:=seg_lent (TE:=116) (TP:=134) (TI:=3) (gs:=gs) s (fun it hi=>List.mem_append_right _ (List.mem_cons_of_mem _ hi)) (fun it hi b hb=>by rw [hgs];exact List.mem_flatMap.2 ⟨it,hi,hb⟩) U
 have hlnd:=s.lend (Kin:=seeK K w6 gs) (see_holds s.holds) (fun it hi=>by
  rcases List.mem_cons.1 hi with rfl | hi
  ·exact obj_see (s.items _ (List.mem_cons_self ..)) hg56.1
  rcases List.mem_singleton.1 hi with rfl
  exact obj_see (s.items _ (List.mem_cons_of_mem _ (List.mem_cons_self ..))) hg56.2)
 refine lk co151 (ok_slices_IndexFunc_Entry__impl_Seg_put_1 F hlnd hseg.1 ap aq ag aM) ?_
 rintro e7 w7 ⟨K7,rfl,hS7',bz⟩
 have aX:SH w K MM w7 K ([obj i [sv q1] 9,obj f [sv q2.Text,V6 q2.At] 112]++(obj g [V3 A b d,V3 a n c] 46::segTop 116 a n c lay::(lay).flatMap (ELay.items 134 3))):=s.lent (see_le s.holds) hS7' rfl (fun it hi=>by
  rcases List.mem_cons.1 hi with rfl | hi
  ·exact obj_on (hS7'.items _ (List.mem_cons_self ..)) ((see_le s.holds).trans hS7'.le)
  rcases List.mem_singleton.1 hi with rfl
  exact obj_on (hS7'.items _ (List.mem_cons_of_mem _ (List.mem_cons_self ..))) ((see_le s.holds).trans hS7'.le))
 have aj:SH w K MM w7 K (obj f [sv q2.Text,V6 q2.At] 112::obj i [sv q1] 9::obj g [V3 A b d,V3 a n c] 46::segTop 116 a n c lay::(lay).flatMap (ELay.items 134 3)):=aX.perm (List.Perm.swap _ _ _)
 refine av rfl (nsr (mv rfl (lv (rv_lss rfl rfl) (nq (wc_cutg (fun E' w'=>∃a2 l m lay2 D,E'=[(0,pt g),(3,V6 q3),(6,pt f),(8,V6 (cond (decide (k<0)) (q0.Entries.length:Int) k))]∧SH w K MM w' D (obj f [sv q2.Text,V6 q2.At] 112::obj i [sv q1] 9::obj g [V3 A b d,V3 a2 l m] 46::segTop 116 a2 l m lay2::(lay2).flatMap (ELay.items 134 3))∧KLe K D∧LayOk lay2 es) ?_ ?_)))))
 ·refine wc_cond rfl (fun hb=>?_) (fun hb=>?_)
  ·rw [hb] at B ⊢
   simp only [cond_true] at B ⊢
   refine sr (mv rfl (lv (rv_nilCheck rfl) (fl ff46_1 rfl tf44 m2 aj rfl (lv (rv_lenRow underlying44 rfl hseg.2) (av rfl (nq ?_))))))
   have G:=aj.drew
   refine wh1 (fun w'=>Holds K w'∧HasObj i [sv q1] w'∧HasObj f [sv q2.Text,V6 q2.At] w') (fun w'=>HasObj g [V3 A b d,V3 a n c] w') 13 [(4,10),(10,13)] mixed ⟨G.hasK kr,G.hasObj m1,G.hasObj m0⟩ (fun _=>G.hasObj (.tail _ (.tail _ (.head _)))) (gt (rv_move rfl) (gt (rv_move rfl) (gt (rv_nilCheck rfl) (gt (rv_fieldAddr ff46_1 rfl) (gf (fun _ h=>rh_loadm1 tf44 rfl rfl h) (gh (fun _ h=>rh_loadm1 tf9 rfl rfl h.2.1) (gt (rv_fieldAddr ff112_0 rfl) (gh (fun _ h=>rh_loadm1 tf9 rfl rfl h.2.2) (gt (rv_build (cs:=#[sv q1,sv q2.Text,V3 none 0 0]) sp116 tf116 rfl (by kernel_rfl)) ?_)))))))))
   refine gn (wl_buildSlice (t:=tRaw 3) (n:=1) (pv:=[(0,.agg #[sv q1,sv q2.Text,V3 none 0 0])]) (cs:=[sv q1,sv q2.Text,V3 none 0 0]) (xs:=[([sv q1,sv q2.Text,V3 none 0 0]:List Value)]) wn rfl underlying44 tf116 rfl rfl rfl (by kernel_rfl) rfl rfl (lit_cons (t:=tRaw 3) (u:=.agg #[sv q1,sv q2.Text,V3 none 0 0]) (z:=([sv q1,sv q2.Text,V3 none 0 0]:List Value)) ⟨rfl,rfl,by simp [Value.oneCell',sv]⟩ lit_nil) G fun a9 w9 K9 W ay hS9'=>?_)
   obtain⟨b9,o9,rfl⟩:=raw_addr ay
   have aZ:=raw_lit ay
   have H:=hS9'.drop
   refine wl_nil (qh ⟨H.hasK W,H.hasObj m1,H.hasObj m0⟩ (fun _=>H.hasObj (.tail _ (.tail _ (.head _)))) ?_)
   unfold catL at B
   split at B
   case isFalse=>cases B
   rename_i hbd
   cases B
   have hnl:n=q0.Entries.length:=hseg.2
   have hS9t:SH w K MM w9 K9 (rowI (V3 a n c) (lay.flatMap ELay.cells) 116 3::(obj f [sv q2.Text,V6 q2.At] 112::obj i [sv q1] 9::obj g [V3 A b d,V3 a n c] 46::(lay).flatMap (ELay.items 134 3))):=H.perm (List.perm_middle (l₁:=[_,_,_])).symm
   refine gn ?_
   have hcl9:(lay.flatMap ELay.cells).length=n*3:=by rw [sg_cells3,←sg_top_len hS9t (List.mem_cons_self ..)]
   refine wl_appendI wn rfl underlying44 tf116 rfl rfl rfl (by decide) rfl aZ (by simp [Value.oneCell',sv]) hcl9 (by simp at hbd;omega) (by simp at hbd;omega) hS9t fun X Y bD I=>(wl_nil (qh ⟨I.hasK W,I.hasObj m2,I.hasObj m1⟩ (fun _=>I.hasObj (.tail _ (.tail _ (.tail _ (.head _))))) (gt (rv_nilCheck rfl) (gt (rv_fieldAddr ff46_1 rfl) (gn (ls [V3 A b d,V3 (some ⟨X,0,none⟩) (n+1) Y] (V3 (some ⟨X,0,none⟩) (n+1) Y) tf44 I.f3 fun ba aa=>(wl_nil (qh ⟨aa.hasK W,aa.hasObj m3,aa.hasObj m2⟩ (fun h=>nomatch h) (gd' ?_)))))))))
   have bb:=SH.rowNil aa 134 2
   have bc:SH w K MM ba K9 (obj f [sv q2.Text,V6 q2.At] 112::obj i [sv q1] 9::obj g [V3 A b d,V3 (some ⟨X,0,none⟩) (n+1) Y] 46::segTop 116 (some ⟨X,0,none⟩) (n+1) Y (lay++[ELay.mk q1 q2.Text [] none 0 0])::((lay++[ELay.mk q1 q2.Text [] none 0 0])).flatMap (ELay.items 134 3)):=by
    have e1:(lay++[ELay.mk q1 q2.Text [] none 0 0]).flatMap ELay.cells=lay.flatMap ELay.cells++[sv q1,sv q2.Text,V3 none 0 0]:=by rw [List.flatMap_append];rfl
    have e2:((lay++[ELay.mk q1 q2.Text [] none 0 0])).flatMap (ELay.items 134 3)=(lay).flatMap (ELay.items 134 3)++[rowI (V3 none 0 0) [] 134 2]:=by rw [List.flatMap_append];rfl
    unfold segTop
    rw [e1,e2]
    exact bb.perm ((show List.Perm ((_::_::_::_::(lay).flatMap (ELay.items 134 3))++[_]) _ from List.perm_append_singleton _ _).trans (.cons _ (List.Perm.append_right ((lay).flatMap (ELay.items 134 3)) (List.perm_append_comm (l₁:=[_,_]) (l₂:=[_,_])))))
   refine qe_mid' ⟨_,_,_,_,K9,rfl,bc,W,fun x hx=>?_,?_⟩ ⟨rfl,rfl,rfl,rfl,trivial⟩
   ·rcases List.mem_append.1 hx with hx | hx
    ·exact U.1 x hx
    rcases List.mem_singleton.1 hx with rfl
    exact⟨ap,aq,by simp⟩
   rw [List.map_append,U.2];rfl
  rw [hb] at B ⊢
  simp only [cond_false] at B ⊢
  cases oi B
  exact wc_skip (qd ⟨a,n,c,lay,K,rfl,aj,.refl _,U⟩)
 rintro _ az ⟨a2,l,m,lay2,D,rfl,am,aA,hlay2⟩
 generalize hkk:(cond (decide (k<0)) (q0.Entries.length:Int) k)=kk at *
 obtain⟨hok2,hes⟩:=hlay2
 obtain⟨el,aB,hel⟩:=sg_getI_map (hes▸ar:getI (lay2.map ELay.x) kk=some en)
 obtain⟨pre,post,hsplit,hpre,bE⟩:=sg_split aB
 have hn2:=sg_top_len am m3
 have hn2e:l=es.length:=by rw [←hes,List.length_map];exact hn2
 obtain⟨gE,rfl⟩:=SH.rowI_at am m3 hn2 aB
 obtain⟨R,hR⟩: ∃R,R=((pre).flatMap (ELay.items 134 3)++(post).flatMap (ELay.items 134 3)):=⟨_,rfl⟩
 have y:SH w K MM az D (obj f [sv q2.Text,V6 q2.At] 112::obj i [sv q1] 9::obj g [V3 A b d,V3 (some ⟨gE,0,none⟩) l m] 46::segTop 116 (some ⟨gE,0,none⟩) l m (pre++el::post)::ELay.row 134 el::(el.posts.map (PLay.item 3)++R)):=by
  rw [hR]
  have J:=am
  rw [hsplit] at J
  exact J.perm ((List.Perm.append_left [_,_,_] (seg_focus (TE:=116) (TP:=134) (TI:=3))).symm)
 have helok:el.ok:=hok2 el (by rw [hsplit];simp)
 have hnP:el.n=el.posts.length:=sg_row_len y m4
 have hhead:=sg_head_at (pre:=pre) (post:=post) (e:=el) (o:=kk.toNat*3+2) (by rw [hpre])
 have hpl:el.posts.length≤maxLen:=rowI_max y m4 hnP
 have henp:en.Posts=el.posts.map PLay.x:=by rw [←hel];rfl
 refine qr (mv rfl (lv (rv_nilCheck rfl) (fl ff46_1 rfl tf44 m2 y rfl (mv rfl (lv (rv_indexI (t:=tGEntry) underlying44 tf116 rfl rfl rfl hn2e ar) (av rfl (nr (mv rfl (lv (rv_nilCheck rfl) ?_)))))))))
 refine fa ff116_2 rfl (lv (rh_loadI1 tf61 rfl rfl hhead rfl (y.hasRow (.tail _ (.tail _ (.tail _ (.head _)))))) (lv (rv_lenRow underlying61 rfl hnP) (lv (rv_sub rfl rfl) (av rfl (ns (wc_seq (wc_cutg (fun E' w'=>E'=[(3,V6 q3),(6,pt f),(9,.pointer (some ⟨gE,kk.toNat*tGEntry.size,none⟩)),(10,V6 (w64 ((el.posts.length:Int)-1))),(62,.bool (needPost en.Posts q3))]∧w'=az) ?_ ?_)))))))
 ·refine wc_region (mv rfl (lv (rv_lss rfl rfl) (mv rfl ?_)))
  rcases List.eq_nil_or_concat el.posts with hnil | ⟨ps0,p0,hcat⟩
  ·have hb:decide (w64 ((el.posts.length:Int)-1)<0)=true:=by rw [sg_pred hpl,hnil];rfl
   have hnp:needPost en.Posts q3=true:=by rw [henp,hnil];rfl
   rw [hnp]
   iterate 10 refine lu hb ?_
   refine lv (p_t rfl hb rfl) (wl_nil ?_)
   exact qd ⟨rfl,rfl⟩
  rw [List.concat_eq_append] at hcat
  have hlp:el.posts.length=ps0.length+1:=by rw [hcat];simp
  have hw:w64 ((el.posts.length:Int)-1)=(ps0.length:Int):=by rw [sg_pred hpl,hlp];omega
  have hb:decide (w64 ((el.posts.length:Int)-1)<0)=false:=by rw [hw];exact decide_eq_false (by omega)
  have hnp:needPost en.Posts q3= !(p0.doc==q3):=by rw [henp,hcat,List.map_append];simp [needPost,PLay.x]
  rw [hnp]
  have hzp:getI en.Posts (w64 ((el.posts.length:Int)-1))=some p0.x:=by rw [henp,hcat,List.map_append];exact sg_last (by rw [←hcat,hw];simp)
  have hnPe:el.n=en.Posts.length:=by rw [henp,List.length_map];exact hnP
  obtain⟨gP,hgP⟩:=SH.rowI_at y m4 hnPe hzp
  have hdoc:(el.posts.flatMap PLay.cells)[(w64 ((el.posts.length:Int)-1)).toNat*2+0]? =some (V6 p0.doc):=by rw [hcat];exact sg_post_at (k:=0) (by rw [←hcat,hw];simp)
  refine lg hb (rv_move rfl) (lg hb (rv_nilCheck rfl) (lg hb (rv_fieldAddr ff116_2 rfl) (lg hb (rh_loadI1 tf61 rfl rfl hhead rfl (y.hasRow (.tail _ (.tail _ (.tail _ (.head _)))))) (lg hb (rv_move rfl) (lg hb (rv_indexI (t:=tGPost) underlying61 tf134 rfl rfl hgP hnPe hzp) (lg hb (rv_fieldAddr ff134_0 rfl) (lg hb (rh_loadI1 tf3 rfl rfl hdoc hgP (y.hasRow (.tail _ (.tail _ (.tail _ (.tail _ (.head _))))))) (lg hb (rv_move rfl) (lg hb (rv_neq rfl rfl) ?_)))))))))
  refine lv (rv_pick_f rfl hb rfl) (wl_nil ?_)
  exact qd ⟨rfl,rfl⟩
 rintro _ _ ⟨rfl,rfl⟩
 refine qe_seq (wc_cutg (fun E' w'=>∃el2 ps0 pl K3,E'=[(6,pt f),(9,.pointer (some ⟨gE,kk.toNat*tGEntry.size,none⟩)),(10,V6 (ps0.length:Int))]∧SH w K MM w' K3 (obj f [sv q2.Text,V6 q2.At] 112::obj i [sv q1] 9::obj g [V3 A b d,V3 (some ⟨gE,0,none⟩) l m] 46::segTop 116 (some ⟨gE,0,none⟩) l m (pre++el2::post)::ELay.row 134 el2::(pl.item 3::(ps0.map (PLay.item 3)++R)))∧KLe K K3∧el2.ok∧el2.field=el.field∧el2.term=el.term∧el2.posts=ps0++[pl]∧ps=el2.posts.map PLay.x) ?_ ?_)
 ·refine wc_cond rfl (fun hb=>?_) (fun hb=>?_)
  ·rw [hb] at C
   simp only [cond_true] at C
   refine sr (mv rfl (mv rfl (lv (rv_nilCheck rfl) (fa ff116_2 rfl (lv (rh_loadI1 tf61 rfl rfl hhead rfl (y.hasRow (.tail _ (.tail _ (.tail _ (.head _)))))) (mv rfl (lv (rv_build (cs:=#[V6 q3,V3 none 0 0]) sp134 tf134 rfl (by kernel_rfl)) (wl_buildSlice (t:=tRaw 2) (n:=1) (pv:=[(0,.agg #[V6 q3,V3 none 0 0])]) (cs:=[V6 q3,V3 none 0 0]) (xs:=[([V6 q3,V3 none 0 0]:List Value)]) wn rfl underlying61 tf134 rfl rfl rfl (by kernel_rfl) rfl rfl (lit_cons (t:=tRaw 2) (u:=.agg #[V6 q3,V3 none 0 0]) (z:=([V6 q3,V3 none 0 0]:List Value)) ⟨rfl,rfl,by simp [Value.oneCell']⟩ lit_nil) y fun bF bG aC bd aD hS22'=>?_))))))))
   obtain⟨bH,bI,rfl⟩:=raw_addr aD
   have be:=raw_lit aD
   have bf:=hS22'.drop
   unfold catL at C
   split at C
   case isFalse=>cases C
   rename_i hbd
   cases C
   have hbd2:(el.n+1)*32≤140737488355328:=by rw [henp] at hbd;simp at hbd;rw [hnP];exact hbd
   refine wl_appendI wn rfl underlying61 tf134 rfl rfl rfl (by decide) rfl be (by simp [Value.oneCell']) (by rw [sg_cells2,hnP]) (by omega) hbd2 bf.f4 fun aE c24 bJ bg=>(lv (rv_nilCheck rfl) (fa ff116_2 rfl (wl_storeC wn tf61 rfl rfl rfl bg.f4 (by have:=(List.getElem?_eq_some_iff.1 hhead).1;exact this) ?_)))
   intro bh bi
   refine nq (wc_region (mv rfl (lv (rv_add rfl rfl) (lv (rv_as rfl (congrArg (Value.int .i64) (sg_back hpl))) (wl_nil ?_)))))
   obtain⟨el2,hel2⟩: ∃el2:ELay,el2=⟨el.field,el.term,el.posts++[⟨q3,[],none,0,0⟩],some ⟨aE,0,none⟩,el.n+1,c24⟩:=⟨_,rfl⟩
   have hset:=sg_head_set (pre:=pre) (post:=post) (e:=el) (e':=el2) (o:=kk.toNat*3+2) (by rw [hpre]) (by rw [hel2]) (by rw [hel2])
   have bj:SH w K MM bh aC (rowI (V3 (some ⟨gE,0,none⟩) l m) ((pre++el2::post).flatMap ELay.cells) 116 3::ELay.row 134 el2::obj f [sv q2.Text,V6 q2.At] 112::obj i [sv q1] 9::obj g [V3 A b d,V3 (some ⟨gE,0,none⟩) l m] 46::(el.posts.map (PLay.item 3)++R)):=by
    have e1:el2.posts.flatMap PLay.cells=el.posts.flatMap PLay.cells++[V6 q3,V3 none 0 0]:=by rw [hel2,List.flatMap_append];rfl
    have e2:el2.a=some ⟨aE,0,none⟩:=by rw [hel2]
    have e3:el2.n=el.n+1:=by rw [hel2]
    have e4:el2.c=c24:=by rw [hel2]
    rw [←hset]
    unfold ELay.row
    rw [e1,e2,e3,e4]
    exact bi
   have bk:=SH.rowNil bj 3 1
   refine qe_mid' ⟨el2,el.posts,⟨q3,[],none,0,0⟩,aC,rfl,bk.perm ?_,aA.trans bd,?_,by rw [hel2],by rw [hel2],by rw [hel2],?_⟩ ⟨rfl,rfl,rfl,trivial⟩
   ·exact(List.Perm.append_left [_,_,_,_,_] (List.Perm.refl _)).trans ((List.perm_middle (l₁:=[_,_,_,_,_])).trans (.cons _ (List.Perm.append_right _ (List.perm_append_comm (l₁:=[_,_,_]) (l₂:=[_,_])))))
   ·rw [hel2]
    refine⟨helok.1,helok.2.1,fun q hq=>?_⟩
    rcases List.mem_append.1 hq with hq | hq
    ·exact helok.2.2 q hq
    rcases List.mem_singleton.1 hq with rfl
    exact⟨aL,by simp⟩
   rw [hel2,henp,List.map_append];rfl
  rw [hb] at C
  simp only [cond_false] at C
  cases oi C
  refine wc_skip ?_
  rcases List.eq_nil_or_concat el.posts with hnil | ⟨ps0,p0,hcat⟩
  ·rw [henp,hnil] at hb;cases hb
  rw [List.concat_eq_append] at hcat
  have hlp:el.posts.length=ps0.length+1:=by rw [hcat];simp
  have hw:w64 ((el.posts.length:Int)-1)=(ps0.length:Int):=by rw [sg_pred hpl,hlp];omega
  rw [hw]
  refine qe_mid' ⟨el,ps0,p0,D,rfl,?_,aA,helok,rfl,rfl,hcat,henp⟩ ⟨rfl,rfl,rfl,trivial⟩
  have J:=y
  rw [hcat] at J
  exact J.perm (List.Perm.append_left [_,_,_,_,_] (post_focus (TI:=3)).symm)
 rintro _ bK ⟨el2,ps0,pl,K3,rfl,ac,bl,hel2ok,hf2,ht2,hcat2,hps⟩
 refine qe_seq ?_
 have hpx:p=pl.x:=by rw [hps,hcat2,List.map_append] at ah;simp at ah;exact ah.symm
 have hn30:el2.n=el2.posts.length:=sg_row_len ac m4
 have bm:getI el2.posts (ps0.length:Int)=some pl:=by rw [hcat2];exact sg_last rfl
 obtain⟨gP,hgP⟩:=SH.rowI_at ac m4 hn30 bm
 have hpn:pl.n=pl.at_.length:=sg_item_len ac m5
 have hhead2:=sg_head_at (pre:=pre) (post:=post) (e:=el2) (o:=kk.toNat*3+2) (by rw [hpre])
 have aF:getI (el2.posts.map PLay.x) (ps0.length:Int)=some pl.x:=by rw [hcat2,List.map_append];exact sg_last (by simp)
 have hn31:el2.n=(el2.posts.map PLay.x).length:=by rw [List.length_map];exact hn30
 have hat:(el2.posts.flatMap PLay.cells)[(ps0.length:Int).toNat*2+1]? =some (V3 pl.a pl.n pl.c):=by rw [hcat2];exact sg_post_at (k:=1) (by simp)
 have O:=ac.drew
 refine wh1 (fun w'=>Holds K3 w'∧HasRow (some ⟨gE,0,none⟩) ((pre++el2::post).flatMap ELay.cells) w'∧HasObj f [sv q2.Text,V6 q2.At] w') (fun w'=>HasRow el2.a (el2.posts.flatMap PLay.cells) w') 19 [(12,16),(16,19)] mixed ⟨O.hasK kr,O.hasRow m3,O.hasObj m0⟩ (fun _=>O.hasRow (.tail _ (.tail _ (.tail _ (.tail _ (.head _)))))) (gt (rv_move rfl) (gt (rv_nilCheck rfl) (gt (rv_fieldAddr ff116_2 rfl) (gh (fun _ h=>rh_loadI1 tf61 rfl rfl hhead2 rfl h.2.1) (gt (rv_move rfl) (gt (rv_move rfl) (gt (rv_nilCheck rfl) (gt (rv_fieldAddr ff116_2 rfl) (gh (fun _ h=>rh_loadI1 tf61 rfl rfl hhead2 rfl h.2.1) ?_)))))))))
 refine gt (rv_move rfl) (gt (rv_indexI (t:=tGPost) underlying61 tf134 rfl rfl hgP hn31 aF) (gt (rv_fieldAddr ff134_1 rfl) (gf (fun _ h=>rh_loadI1 tf71 rfl rfl hat hgP h) (gt (rv_fieldAddr ff112_1 rfl) (gh (fun _ h=>rh_loadm1 tf3 rfl rfl h.2.2) (gn (lb tInt (V6 q2.At) [V6 q2.At] q2.At underlying71 tf3 ⟨rfl,ag⟩ O fun bL bM ad ae aG hS35'=>?_)))))))
 obtain⟨bN,bO,rfl⟩:=sg_addr aG
 have bn:=int_lit aG
 have S:=hS35'.drop
 refine wl_nil (qh ⟨S.hasK ae,S.hasRow m3,S.hasObj m0⟩ (fun _=>S.hasRow (.tail _ (.tail _ (.tail _ (.tail _ (.head _)))))) (gn ?_))
 unfold catL at V
 split at V
 case isFalse=>cases V
 rename_i hbd
 cases V
 have hbd2:(pl.n+1)*8≤140737488355328:=by rw [hpx] at hbd;simp [PLay.x] at hbd;rw [hpn];exact hbd
 refine wl_appendI wn rfl underlying71 tf3 rfl rfl rfl (by decide) rfl bn (by simp [Value.oneCell']) (by rw [List.length_map,hpn,Nat.mul_one]) (by omega) hbd2 S.f5 fun aH c37 bP T=>(wl_nil (qh ⟨T.hasK ae,T.hasRow m4,T.hasObj m1⟩ (fun _=>T.hasRow (.tail _ (.tail _ (.tail _ (.tail _ (.tail _ (.head _))))))) (gt (rv_indexI (t:=tGPost) underlying61 tf134 rfl rfl hgP hn31 aF) (gt (rv_fieldAddr ff134_1 rfl) (gn ?_)))))
 obtain⟨fl2,tm2,po2,a2',m2',c2'⟩:=el2
 simp only at hgP hat hcat2 hf2 ht2 hn30
 subst hgP
 refine wl_storeC wn tf71 rfl rfl rfl T.f5 (by have:=(List.getElem?_eq_some_iff.1 hat).1;exact this) ?_
 intro ao af
 refine wl_nil (qh ⟨af.hasK ae,af.hasRow m5,af.hasObj m2⟩ (fun h=>nomatch h) (gd' ?_))
 subst hR
 subst hcat2
 obtain⟨pl2,hpl2⟩: ∃pl2:PLay,pl2=⟨pl.doc,pl.at_++[q2.At],some ⟨aH,0,none⟩,pl.n+1,c37⟩:=⟨_,rfl⟩
 obtain⟨el3,hel3⟩: ∃el3:ELay,el3=⟨fl2,tm2,ps0++[pl2],some ⟨gP,0,none⟩,m2',c2'⟩:=⟨_,rfl⟩
 have bo:SH w K MM ao ad (ELay.row 134 el3::pl2.item 3::obj f [sv q2.Text,V6 q2.At] 112::obj i [sv q1] 9::obj g [V3 A b d,V3 (some ⟨gE,0,none⟩) l m] 46::segTop 116 (some ⟨gE,0,none⟩) l m (pre++el3::post)::(ps0.map (PLay.item 3)++((pre).flatMap (ELay.items 134 3)++(post).flatMap (ELay.items 134 3)))):=by
  have e1:=sg_post_set (ps:=ps0) (p:=pl) (p':=pl2) (o:=(ps0.length:Int).toNat*2+1) (by simp) (by rw [hpl2])
  have e2:pl2.a=some ⟨aH,0,none⟩:=by rw [hpl2]
  have e3:pl2.n=pl.n+1:=by rw [hpl2]
  have e4:pl2.c=c37:=by rw [hpl2]
  have e5:pl2.at_.map intC=pl.at_.map intC++[V6 q2.At]:=by rw [hpl2,List.map_append];rfl
  have e6:(pre++el3::post).flatMap ELay.cells=(pre++⟨fl2,tm2,ps0++[pl],some ⟨gP,0,none⟩,m2',c2'⟩::post).flatMap ELay.cells:=by rw [hel3,List.flatMap_append,List.flatMap_append,List.flatMap_cons,List.flatMap_cons];rfl
  have e7:ELay.row 134 el3=rowI (V3 (some ⟨gP,0,none⟩) m2' c2') ((ps0++[pl2]).flatMap PLay.cells) 134 2:=by rw [hel3];rfl
  rw [e7,←e1]
  unfold segTop
  rw [e6]
  show SH w K MM ao ad (_::rowI (V3 pl2.a pl2.n pl2.c) (pl2.at_.map intC) 3 1::_)
  rw [e2,e3,e4,e5]
  exact af
 have br:=bo.sublist (.cons_cons _ (.cons_cons _ (.cons _ (.cons _ (List.Sublist.refl _)))))
 have hpo3:el3.posts=ps0++[pl2]:=by rw [hel3]
 have bs:SH w K MM ao ad (segItems 116 134 3 (some ⟨gE,0,none⟩) l m (pre++el3::post)++[obj g [V3 A b d,V3 (some ⟨gE,0,none⟩) l m] 46]):=by
  refine br.perm ((List.perm_append_singleton _ _).trans ((List.Perm.cons _ (seg_focus (TE:=116) (TP:=134) (TI:=3))).trans ?_))
  rw [hpo3]
  exact(List.Perm.append_left [_,_,_] (post_focus (TI:=3))).trans (List.Perm.append_right _ (List.perm_append_comm (l₁:=[_,_]) (l₂:=[_,_])))
 have bu:=bs.packUp.perm (List.Perm.swap _ _ _)
 refine qe_ret_normal (qe_ret (vs:=[]) results74 trivial ⟨A,b,d,some ⟨gE,0,none⟩,l,m,pre++el3::post,ad,rfl,bu,aK.mono (bl.trans ae),?_,?_⟩)
 ·intro x hx
  rw [hsplit] at hok2
  rcases List.mem_append.1 hx with hx | hx
  ·exact hok2 x (List.mem_append_left _ hx)
  rcases List.mem_cons.1 hx with rfl | hx
  ·rw [hel3,hpl2]
   refine⟨hel2ok.1,hel2ok.2.1,fun q hq=>?_⟩
   rcases List.mem_append.1 hq with hq | hq
   ·exact hel2ok.2.2 q (List.mem_append_left _ hq)
   rcases List.mem_singleton.1 hq with rfl
   have h8:=hel2ok.2.2 pl (List.mem_append_right _ (List.mem_singleton.2 rfl))
   refine⟨h8.1,fun z hz=>?_⟩
   rcases List.mem_append.1 hz with hz | hz
   ·exact h8.2 z hz
   rcases List.mem_singleton.1 hz with rfl
   exact ag
  exact hok2 x (List.mem_append_right _ (List.mem_cons_of_mem _ hx))
 show _=es.set kk.toNat _
 rw [←hes,hsplit,List.map_append,List.map_cons,List.map_append,List.map_cons,List.set_append_right _ _ (by rw [List.length_map,hpre];exact Nat.le_refl _),List.length_map,hpre,Nat.sub_self,List.set_cons_zero]
 have e1:el3.x=GEntry.mk en.Field en.Term (ps.dropLast++[GPost.mk p.Doc (p.At++[q2.At])]):=by
  rw [hel3,hps,hpx,hpl2,←hel]
  simp [ELay.x,PLay.x,hf2,ht2]
 rw [e1]

theorem ok_cmp_Or_int {q0:List Int}{r:Int}(hS:SH w K [] w K [])(k:SliceAt tInt K A a b q0)(hm:M.cmp_Or_int F q0=some r):
  Calls prog 77 #[V3 A a b] w (R_i w K r):=by
 rw [M.cmp_Or_int] at hm
 refine ci func77 u ntmps77 (sr (lv (r_0 u) (nr (lv (r_0 u) (nsr (mv u (lv (rv_len underlying71 u k) (lv (r_m u) (nq ?_)))))))))
 obtain⟨s,x,d⟩:=ob hm
 refine wc_cutg (IE s w K [] K [(3,V6 0)] []) ?_ ?_
 ·refine wc_block ?_
  obtain⟨aa,y,m⟩:=ob x
  refine qf (fun (o:Nat) (q:Unit)=>IV w K [] K [(3,V6 0),(6,V3 A a b),(7,V6 (q0.length:Int)),(8,V6 ((o:Nat):Int))] []) y ⟨K,u,hS,kr⟩ ?_ ?_
  ·rintro o q _ B ab hi23 C D ⟨f,rfl,c,i⟩
   refine sr (lv (rv_lss u u) (ns (wc_cond_t u (decide_eq_true (by omega)) (wc_skip (qe_seq (wc_seq (wc_block (sr ?_))))))))
   obtain⟨G,H,I⟩:=ob C
   refine li underlying71 tf3 (k.mono i) H fun J O ac R S=>?_
   obtain⟨rfl,T⟩:=R
   have U:AtK _ J O [V6 G]:=S
   refine lv (rv_load1 tf3 u c (U 0 _ u)) (av u (nr (mv u (mv u (lv (rv_neq u u) (nq (wcc I u (fun V l=>?_) (fun V l=>?_))))))))
   ·refine sr (mv u (av u (nq (wc_ret (qe_block_ret (qe_then_ret (qe_then_ret ?_)))))))
    cases oi l
    cases D _ u
    refine qe_block_ret (qe_then_ret ?_)
    cases oi m
    refine qe_then_ret ?_
    cases oi d
    exact ey results77 ⟨f,u,c,T⟩
   refine wc_skip (qe_block (qg (lv (rv_add_to u u (w64_succ hi23 (SliceAt.max k))) (mv u (wl_nil ?_)))))
   cases oi l
   exact qd ⟨_,u,f,u,c,i⟩
  rintro q _ B W ⟨f,rfl,c,i⟩
  subst W
  refine sr (lv (rv_lss u u) (ns (wc_cond_f u (decide_eq_false (by omega)) (wc_exit (qe_then_exit (qe_then_exit (qe_block_eq ?_)))))))
  cases oi m
  exact qd ⟨_,f,u,u,c,i⟩
 rintro _ ad ⟨s8,X,rfl,rfl,Y,af⟩
 have d:=elim_l d
 refine qr (mv u (av u (nq (wc_ret ?_))))
 cases oi d
 exact ey results77 ⟨X,u,Y,d_0⟩

theorem ok_cmp_isNaN_string {q0:Str}{r:Bool}(hS:SH w K [] w K [])(a:q0.length≤maxLen)(hm:M.cmp_isNaN_string F q0=some r):
  Calls prog 155 #[sv q0] w (R_b w K r):=by
 rw [M.cmp_isNaN_string] at hm
 refine ci func155 u ntmps155 (sr (lv (r_f u) (nr (mv u (mv u (lv (rv_sneq u u) (av u (nq (wc_ret ?_)))))))))
 cases oi hm
 exact ey results155 ⟨K,u,hS⟩

theorem ok_cmp_Compare_string {q0:Str}{q1:Str}{r:Int}(hS:SH w K [] w K [])(m:q0.length≤maxLen)(o:q1.length≤maxLen)(hm:M.cmp_Compare_string F q0 q1=some r):
  Calls prog 78 #[sv q0,sv q1] w (R_i w K r):=by
 rw [M.cmp_Compare_string] at hm
 refine ci func78 u ntmps78 (sr (lv (r_0 u) (nr (mv u ?_))))
 obtain⟨J,q,s⟩:=ob hm
 refine lk co155 (ok_cmp_isNaN_string F hS.enter0 m q) ?_
 rintro O R ⟨S,rfl,x⟩
 have l:=(hS.c0 x).t0
 refine av u (nr (mv u ?_))
 obtain⟨T,y,A⟩:=ob s
 refine lk co155 (ok_cmp_isNaN_string F l.enter0 o y) ?_
 rintro U V ⟨a,rfl,B⟩
 have b:=(l.c0 B).t0
 refine av u (nsr (mv u (nq (wcc A u (fun C c=>?_) (fun C c=>?_)))))
 ·refine wc_seq (sr (mv u (nq (wcc c u (fun D d=>?_) (fun D d=>?_)))))
  ·refine sr (lv (r_0 u) (nq (rr (qe_then_ret ?_))))
   cases oi d
   exact ey results78 ⟨a,u,b,d_0⟩
  refine wc_skip (qr (lv (rv_assign (v:=V6 (-1)) u) (nq (rr ?_))))
  cases oi d
  exact ey results78 ⟨a,u,b,(by decide :rng64 (-1))⟩
 refine wc_skip (qs (sr (mv u (nq (wcc c u (fun G f=>?_) (fun G f=>?_))))))
 ·refine sr (lv (rv_assign (v:=V6 1) u) (nq (rr ?_)))
  cases oi f
  exact ey results78 ⟨a,u,b,(by decide :rng64 1)⟩
 refine wc_skip (qs (sr (mv u (mv u (lv (rv_slss u u) (nq (wcc f u (fun H i=>?_) (fun H i=>?_))))))))
 ·refine sr (lv (rv_assign (v:=V6 (-1)) u) (nq (rr ?_)))
  cases oi i
  exact ey results78 ⟨a,u,b,(by decide :rng64 (-1))⟩
 refine wc_skip (qs (sr (mv u (mv u (lv (rv_sgtr u u) (nq (wcc i u (fun I k=>?_) (fun I k=>?_))))))))
 ·refine sr (lv (rv_assign (v:=V6 1) u) (nq (rr ?_)))
  cases oi k
  exact ey results78 ⟨a,u,b,(by decide :rng64 1)⟩
 refine wc_skip (qr (lv (r_0 u) (nq (wc_ret ?_))))
 cases oi k
 exact ey results78 ⟨a,u,b,d_0⟩

theorem ok_impl_SegOf_1 {q0:GEntry}{q1:GEntry}{r:Int}(hS:SH w K [] w K [])(H:q0.Field.length≤maxLen)(I:q0.Term.length≤maxLen)(ah:SliceAt tGPost K A a b q0.Posts)(J:q1.Field.length≤maxLen)(O:q1.Term.length≤maxLen)(ai:SliceAt tGPost K B c d q1.Posts)(hm:M.impl_SegOf_1 F q0 q1=some r):
  Calls prog 76 #[.agg #[sv q0.Field,sv q0.Term,V3 A a b],.agg #[sv q1.Field,sv q1.Term,V3 B c d]] w (R_i w K r):=by
 rw [M.impl_SegOf_1] at hm
 refine ci func76 rfl ntmps76 (sr (bx rfl hS fun y aj R=>?_))
 have S:SH _ _ _ _ _ [obj y [sv q0.Field,sv q0.Term,V3 A a b] 116]:=R
 refine bx rfl S fun C ak T=>?_
 have U:SH _ _ _ _ _ [obj C [sv q1.Field,sv q1.Term,V3 B c d] 116,_]:=T
 refine lv (r_0 rfl) (ns ?_)
 have f:=U.drew
 refine j_0 (fun w'=>Holds K w'∧HasObj y [sv q0.Field,sv q0.Term,V3 A a b] w'∧HasObj C [sv q1.Field,sv q1.Term,V3 B c d] w') 13 [] mixed ⟨f.hasK kr,f.hasObj m1,f.hasObj m0⟩ (jv 0 rfl (rv_fieldAddr ff116_0 rfl) (jh 1 rfl (fun _ h=>rh_loadm1 tf9 rfl rfl h.2.1) (jv 2 rfl (rv_fieldAddr ff116_0 rfl) (jh 3 rfl (fun _ h=>rh_loadm1 tf9 rfl rfl h.2.2) (jv 5 rfl (rv_fieldAddr ff116_1 rfl) (jh 6 rfl (fun _ h=>rh_loadm1 tf9 rfl rfl h.2.1) (jv 7 rfl (rv_fieldAddr ff116_1 rfl) (jh 8 rfl (fun _ h=>rh_loadm1 tf9 rfl rfl h.2.2) (j1 4 rfl ?_)))))))))
 obtain⟨i,V,W⟩:=ob hm
 refine lk co78 (ok_cmp_Compare_string F f.enter0 H J V) ?_
 rintro al am ⟨an,rfl,k,X⟩
 have l:=(f.c0 k).t2
 refine j_o ⟨l.hasK k.le,l.hasObj m1,l.hasObj m0⟩ (j1 9 rfl ?_)
 obtain⟨m,Y,aa⟩:=ob W
 refine lk co78 (ok_cmp_Compare_string F l.enter0 I O Y) ?_
 rintro ao ap ⟨aq,rfl,q,ab⟩
 have s:=(l.c0 q).t2
 refine j_o ⟨s.hasK (k.le.trans q.le),s.hasObj m1,s.hasObj m0⟩ (j1 10 rfl (wl_buildSlice (t:=tInt) (n:=2) (pv:=[(0,V6 i),(1,V6 m)]) (cs:=[V6 i,V6 m]) (xs:=[i,m]) wn rfl underlying71 tf3 rfl rfl rfl (by kernel_rfl) rfl rfl (lit_cons (u:=V6 i) (z:=i) ⟨rfl,X⟩ (lit_cons (u:=V6 m) (z:=m) ⟨rfl,ab⟩ lit_nil)) s fun ar au aw D ac o=>(j_o ⟨o.hasK ((k.le.trans q.le).trans D),o.hasObj m2,o.hasObj m1⟩ (j1 11 rfl ?_))))
 obtain⟨ax,ad,ae⟩:=ob aa
 refine lk co77 (ok_cmp_Or_int F o.enter0 ac ad) ?_
 rintro ay az ⟨af,rfl,G,ag⟩
 have x:=(o.c0 G).t3
 refine j_o ⟨x.hasK (((k.le.trans q.le).trans D).trans G.le),x.hasObj m2,x.hasObj m1⟩ (jv 12 rfl (rv_assign rfl) (jd (qe_seq (wc_ret ?_))))
 cases oi ae
 exact ey results76 ⟨af,rfl,x.s,ag⟩

theorem ok_impl_SegOf {q0:GConf}{q1:List GDoc}{r:GSeg}(hS:SH w K [] w K [])(bH:SliceAt tStr K A a b q0.Stops)(bI:SliceAt tGSyn K B c d q0.Syns)(ay:SliceAt tGDoc K C f i q1)(hm:M.impl_SegOf F q0 q1=some r):
  Calls prog 21 #[.agg #[V3 A a b,V3 B c d],V3 C f i] w fun e w'=>∃a_1 n_2 c_3 a_5 n_6 c_7 K',e= .returned (.agg #[V3 a_1 n_2 c_3,V3 a_5 n_6 c_7])∧SH w K [] w' K' [tail (V3 a_5 n_6 c_7) 116 3]∧SliceAt tGDoc K' a_1 n_2 c_3 r.Docs∧SliceAt tGEntry K' a_5 n_6 c_7 r.Entries:=by
 rw [M.impl_SegOf] at hm
 refine ci func21 rfl ntmps21 (sr (bx rfl hS fun l eA bV=>?_))
 have bW:SH _ _ _ _ _ [obj l [V3 A a b,V3 B c d] 33]:=bV
 refine al tf46 bW fun k eB bX=>?_
 have bi:SH _ _ _ _ _ [obj k [V3 none 0 0,V3 none 0 0] 46,_]:=bX
 refine ns (wc_seq ?_)
 obtain⟨bY,bZ,ca⟩:=ob hm
 refine wc_cutg (IV w K [] K [(1,V3 C f i),(2,pt l),(4,pt k),(19,.bool bY)] [obj l [V3 A a b,V3 B c d] 33,obj k [V3 none 0 0,V3 none 0 0] 46]) ?_ ?_
 ·refine wc_region (lv (rv_loadmS (ds:=[V3 A a b,V3 B c d]) tf33 rfl m1 bi rfl rfl) ?_)
  obtain⟨eC,cb,cc⟩:=ob bZ
  refine lk co59 (ok_impl_ConfOk F bi.enter0 bH bI cb) ?_
  rintro eD eE ⟨cd,rfl,aK⟩
  have bj:=(bi.c0 aK).t2
  refine lv (rv_not rfl) (mv rfl (bt cc (fun o bk=>?_) (fun o bk=>?_)))
  ·refine lu o (lu o (lu o (lv (p_t rfl o rfl) (wl_nil ?_))))
   cases oi bk
   exact qd ⟨cd,rfl,bj.f1,aK.le⟩
  refine lg o (rv_move rfl) ?_
  obtain⟨eF,ce,cf⟩:=ob bk
  refine wl_call (wg rfl rfl o) rfl (rt_call (vs:=[V3 C f i]) co45 rfl) (ok_impl_DocsOk F bj.enter0 (ay.mono aK.le) ce) ?_
  rintro eG eH ⟨cg,rfl,bJ⟩
  refine⟨_,rfl,?_⟩
  have ch:=(bj.c0 bJ).t2
  refine lg o (rv_not rfl) (lv (rv_pick_f rfl o rfl) (wl_nil ?_))
  cases oi cf
  exact qd ⟨cg,rfl,ch.f1,(aK.le.trans bJ.le)⟩
 rintro _ eI ⟨cj,rfl,bl,S⟩
 refine qe_seq (wcc ca rfl (fun ck bm=>?_) (fun ck bm=>?_))
 ·refine sr (lv (rv_build (cs:=#[V3 none 0 0,V3 none 0 0]) sp46 tf46 rfl (by kernel_rfl)) (lw [V3 none 0 0,V3 none 0 0] tf46 bl.f1 fun eJ bK=>(nq (rr ?_))))
  cases oi bm
  have cl:=bK.nil 116 3
  exact ez results21 tf46 bK m0 ⟨none,0,0,none,0,0,cj,rfl,cl.s,(SliceAt.nil _ _),(SliceAt.nil _ _)⟩
 refine wc_skip (qr (mv rfl ?_))
 obtain⟨eK,cm,cn⟩:=ob bm
 refine lk co72 (ok_impl_cloneDocs F bl.enter0 (ay.mono S) cm) ?_
 rintro eL eM ⟨bn,bo,bp,eN,rfl,U,cp⟩
 have cq:=(bl.c0 U).t3
 refine b0 tGEntry underlying44 tf116 cq fun bq eO br V eP cr=>(lv (rv_build (cs:=#[V3 bn bo bp,V3 bq 0 0]) sp46 tf46 rfl (by kernel_rfl)) (al tf46 cr fun m eQ ct=>?_))
 have cu:SH _ _ _ _ _ [obj m [V3 none 0 0,V3 none 0 0] 46,_,_,_,_]:=ct
 refine lw [V3 bn bo bp,V3 bq 0 0] tf46 cu fun eR cv=>(nsr (mv rfl (lv (rv_len underlying43 rfl (ay.mono ((S.trans U.le).trans V))) (lv (r_m rfl) (nq ?_)))))
 obtain⟨bL,cw,cx⟩:=ob cn
 refine wc_cutg (fun E' w'=>∃X Y aa I J O lay94 aL,E'=[(4,pt k),(5,pt m)]∧SH w K [] w' aL [obj k [V3 none 0 0,V3 none 0 0] 46,obj m [V3 X Y aa,V3 I J O] 46,pack (segItems 116 134 3 I J O lay94)]∧KLe br aL∧SliceAt tGDoc aL X Y aa bL.Docs∧LayOk lay94 bL.Entries) ?_ ?_
 ·refine wc_block ?_
  obtain⟨eS,cy,cz⟩:=ob cw
  have cA:=seg_empty (TP:=134) (TI:=3) cv.f1
  have cB:=cA.f1.f4.f4.sb (sk (sk (sk (sk (sd sz)))))
  refine qF (fun (ab:Nat) (aM:GSeg) E' w'=>∃ac ad ae af ag ah lay112 q,E'=[(2,pt l),(4,pt k),(5,pt m),(25,V3 C f i),(26,V6 (q1.length:Int)),(27,V6 ((ab:Nat):Int))]∧SH w K [] w' q [obj l [V3 A a b,V3 B c d] 33,obj k [V3 none 0 0,V3 none 0 0] 46,obj m [V3 ac ad ae,V3 af ag ah] 46,pack (segItems 116 134 3 af ag ah lay112)]∧KLe br q∧SliceAt tGDoc q ac ad ae aM.Docs∧LayOk lay112 aM.Entries) cy ⟨bn,bo,bp,bq,0,0,[],br,rfl,cB,kr,(cp.mono V),⟨(fun _ h=>nomatch h),rfl⟩⟩ ?_ ?_
  ·rintro ab aM _ cC eT hi121 cD ⟨ac,ad,ae,af,ag,ah,lay112,q,rfl,aN,ai,bs,bu⟩
   refine sr (lv (rv_lss rfl rfl) (ns (wc_cond_t rfl (decide_eq_true (by omega)) (wc_skip (qe_seq (wc_seq (wc_block (sr ?_))))))))
   obtain⟨s,cE,cF⟩:=ob cD
   refine li underlying43 tf77 (SliceAt.mono (((S.trans U.le).trans V).trans ai) ay) cE fun cG cH eU cI cJ=>?_
   obtain⟨D,G,H,az,aA,aB,rfl,cK,bv,eV⟩:=cI
   have cL:AtK _ cG cH [V6 s.Id,V3 D G H,V3 az aA aB]:=cJ
   refine lv (rv_loadS tf77 rfl aN cL rfl) (al tf77 aN fun R eW cM=>?_)
   have cN:SH _ _ _ _ _ [obj R [V6 0,V3 none 0 0,V3 none 0 0] 77,_,_,_,_]:=cM
   refine lw [V6 s.Id,V3 D G H,V3 az aA aB] tf77 cN fun eX bM=>(nr (fl ff77_1 rfl tf74 m0 bM rfl (lv (rv_len underlying74 rfl bv) (lv (r_m rfl) (nq ?_)))))
   obtain⟨bN,cO,cP⟩:=ob cF
   refine wc_cutg (fun E' w'=>∃aO aP aQ aR aS aT lay162 aC,E'=[(2,pt l),(4,pt k),(5,pt m),(25,V3 C f i),(26,V6 (q1.length:Int)),(27,V6 ((ab:Nat):Int))]∧SH w K [] w' aC [obj l [V3 A a b,V3 B c d] 33,obj k [V3 none 0 0,V3 none 0 0] 46,obj m [V3 aO aP aQ,V3 aR aS aT] 46,pack (segItems 116 134 3 aR aS aT lay162)]∧KLe q aC∧SliceAt tGDoc aC aO aP aQ bN.Docs∧LayOk lay162 bN.Entries) ?_ ?_
   ·refine wc_block ?_
    obtain⟨eY,cQ,cR⟩:=ob cO
    refine qF (fun (aU:Nat) (aV:GSeg) E' w'=>∃aj ak am an ao ap lay180 aq,E'=[(2,pt l),(4,pt k),(5,pt m),(7,pt R),(25,V3 C f i),(26,V6 (q1.length:Int)),(27,V6 ((ab:Nat):Int)),(32,V3 D G H),(33,V6 (s.Fields.length:Int)),(34,V6 ((aU:Nat):Int))]∧SH w K [] w' aq [obj l [V3 A a b,V3 B c d] 33,obj k [V3 none 0 0,V3 none 0 0] 46,obj m [V3 aj ak am,V3 an ao ap] 46,pack (segItems 116 134 3 an ao ap lay180),obj R [V6 s.Id,V3 D G H,V3 az aA aB] 77]∧KLe q aq∧SliceAt tGDoc aq aj ak am aV.Docs∧LayOk lay180 aV.Entries) cQ ⟨ac,ad,ae,af,ag,ah,lay112,q,rfl,bM.f4.f4.f4.f4,kr,bs,bu⟩ ?_ ?_
    ·rintro aU aV _ cS eZ hi187 cT ⟨aj,ak,am,an,ao,ap,lay180,aq,rfl,aW,ar,bz,bA⟩
     refine sr (lv (rv_lss rfl rfl) (ns (wc_cond_t rfl (decide_eq_true (by omega)) (wc_skip (qe_seq (wc_seq (wc_block (sr ?_))))))))
     obtain⟨au,cU,cV⟩:=ob cT
     refine li underlying74 tf108 (bv.mono ar) cU fun cW cX fb cY cZ=>?_
     obtain⟨rfl,da,db⟩:=cY
     have dc:AtK _ cW cX [sv au.Name,sv au.Text]:=cZ
     refine lv (rv_loadS tf108 rfl aW dc rfl) (al tf108 aW fun bB fc dd=>?_)
     have de:SH _ _ _ _ _ [obj bB [sv [],sv []] 108,_,_,_,_,_]:=dd
     refine lw [sv au.Name,sv au.Text] tf108 de fun fd aX=>(nr (lv (rv_loadmS (ds:=[V3 A a b,V3 B c d]) tf33 rfl m1 aX rfl rfl) (fl ff108_1 rfl tf9 m0 aX rfl ?_)))
     obtain⟨df,dg,dh⟩:=ob cV
     refine lk co73 (ok_impl_TermsOf F aX.enter0 (SliceAt.mono ((((S.trans U.le).trans V).trans ai).trans ar) bH) (SliceAt.mono ((((S.trans U.le).trans V).trans ai).trans ar) bI) db dg) ?_
     rintro fe fg ⟨di,dj,dk,bC,rfl,bD,bE⟩
     have dl:=(aX.c0 bD).t7
     refine lv (rv_len underlying109 rfl bE) (lv (r_m rfl) (nq ?_))
     obtain⟨bO,dm,dn⟩:=ob dh
     refine wc_cutg (fun E' w'=>∃aY aZ ba bb bc bd lay233 aD,E'=[(2,pt l),(4,pt k),(5,pt m),(7,pt R),(25,V3 C f i),(26,V6 (q1.length:Int)),(27,V6 ((ab:Nat):Int)),(32,V3 D G H),(33,V6 (s.Fields.length:Int)),(34,V6 ((aU:Nat):Int))]∧SH w K [] w' aD [obj l [V3 A a b,V3 B c d] 33,obj k [V3 none 0 0,V3 none 0 0] 46,obj m [V3 aY aZ ba,V3 bb bc bd] 46,pack (segItems 116 134 3 bb bc bd lay233),obj R [V6 s.Id,V3 D G H,V3 az aA aB] 77]∧KLe bC aD∧SliceAt tGDoc aD aY aZ ba bO.Docs∧LayOk lay233 bO.Entries) ?_ ?_
     ·refine wc_block ?_
      obtain⟨fh,dp,dq⟩:=ob dm
      have dt:=dl.f1.f6.f6.f6.f6.f6.sb (sk (sk (sk (sk (sk (sk (sd sz)))))))
      refine qF (fun (bP:Nat) (be:GSeg) E' w'=>∃aE aF aG aH aI aJ lay251 aw,E'=[(2,pt l),(4,pt k),(5,pt m),(7,pt R),(9,pt bB),(25,V3 C f i),(26,V6 (q1.length:Int)),(27,V6 ((ab:Nat):Int)),(32,V3 D G H),(33,V6 (s.Fields.length:Int)),(34,V6 ((aU:Nat):Int)),(41,V3 di dj dk),(42,V6 (df.length:Int)),(43,V6 ((bP:Nat):Int))]∧SH w K [] w' aw [obj l [V3 A a b,V3 B c d] 33,obj k [V3 none 0 0,V3 none 0 0] 46,obj m [V3 aE aF aG,V3 aH aI aJ] 46,pack (segItems 116 134 3 aH aI aJ lay251),obj R [V6 s.Id,V3 D G H,V3 az aA aB] 77,obj bB [sv au.Name,sv au.Text] 108]∧KLe bC aw∧SliceAt tGDoc aw aE aF aG be.Docs∧LayOk lay251 be.Entries) dp ⟨aj,ak,am,an,ao,ap,lay180,bC,rfl,dt,kr,(bz.mono bD.le),bA⟩ ?_ ?_
      ·rintro bP be _ du fi hi261 dv ⟨aE,aF,aG,aH,aI,aJ,lay251,aw,rfl,bf,bg,bF,bG⟩
       refine sr (lv (rv_lss rfl rfl) (ns (wc_cond_t rfl (decide_eq_true (by omega)) (wc_skip (qe_seq (wc_seq (wc_block (sr ?_))))))))
       obtain⟨ax,dw,dx⟩:=ob dv
       refine li underlying109 tf112 (bE.mono bg) dw fun dy dz fj dA dB=>?_
       obtain⟨rfl,dC,dD⟩:=dA
       have dE:AtK _ dy dz [sv ax.Text,V6 ax.At]:=dB
       refine lv (rv_loadS tf112 rfl bf dE rfl) (al tf112 bf fun dF fk dG=>?_)
       have dH:SH _ _ _ _ _ [obj dF [sv [],V6 0] 112,_,_,_,_,_,_]:=dG
       refine lw [sv ax.Text,V6 ax.At] tf112 dH fun fm bh=>(nq (wc_region (fl ff108_0 rfl tf9 m6 bh rfl (lv (rv_loadmS (ds:=[sv ax.Text,V6 ax.At]) tf112 rfl m0 bh rfl rfl) (fl ff77_0 rfl tf3 m5 bh rfl ?_)))))
       obtain⟨fn,dI,dJ⟩:=ob dx
       have bQ:=bh.f4.f4
       refine lk co74 (ok_impl_Seg_put F bQ.e2 bF bG da dC dD cK dI) ?_
       rintro fo fp ⟨dK,dL,dM,dN,dO,dP,lay296,dQ,rfl,bR,dR,dS⟩
       have dT:=(bQ.c2 bR).t7
       refine nb (qg (lv (rv_add_to rfl rfl (w64_succ hi261 (SliceAt.max bE))) (mv rfl (wl_nil ?_))))
       cases oi dJ
       exact qd ⟨dK,dL,dM,dN,dO,dP,lay296,dQ,rfl,dT.f6.f6.f3.f3.f6.f6.s,(bg.trans bR.le),dR,dS⟩
      rintro be _ du dU ⟨aE,aF,aG,aH,aI,aJ,lay251,aw,rfl,bf,bg,bF,bG⟩
      subst dU
      refine sr (lv (rv_lss rfl rfl) (ns (wc_cond_f rfl (decide_eq_false (by omega)) (wc_exit (qe_then_exit (qe_then_exit (qe_block_eq ?_)))))))
      cases oi dq
      exact qd ⟨aE,aF,aG,aH,aI,aJ,lay251,aw,rfl,bf.s,bg,bF,bG⟩
     rintro _ fq ⟨aY,aZ,ba,bb,bc,bd,lay233,aD,rfl,dV,dW,dX,dY⟩
     refine qe_block (qg (lv (rv_add_to rfl rfl (w64_succ hi187 (SliceAt.max bv))) (mv rfl (wl_nil ?_))))
     cases oi dn
     exact qd ⟨aY,aZ,ba,bb,bc,bd,lay233,aD,rfl,dV,((ar.trans bD.le).trans dW),dX,dY⟩
    rintro aV _ cS dZ ⟨aj,ak,am,an,ao,ap,lay180,aq,rfl,aW,ar,bz,bA⟩
    subst dZ
    refine sr (lv (rv_lss rfl rfl) (ns (wc_cond_f rfl (decide_eq_false (by omega)) (wc_exit (qe_then_exit (qe_then_exit (qe_block_eq ?_)))))))
    cases oi cR
    exact qd ⟨aj,ak,am,an,ao,ap,lay180,aq,rfl,aW.s,ar,bz,bA⟩
   rintro _ fr ⟨aO,aP,aQ,aR,aS,aT,lay162,aC,rfl,ea,eb,ec,ed⟩
   refine qe_block (qg (lv (rv_add_to rfl rfl (w64_succ hi121 (SliceAt.max (ay.mono ((S.trans U.le).trans V))))) (mv rfl (wl_nil ?_))))
   cases oi cP
   exact qd ⟨aO,aP,aQ,aR,aS,aT,lay162,aC,rfl,ea,(ai.trans eb),ec,ed⟩
  rintro aM _ cC ee ⟨ac,ad,ae,af,ag,ah,lay112,q,rfl,aN,ai,bs,bu⟩
  subst ee
  refine sr (lv (rv_lss rfl rfl) (ns (wc_cond_f rfl (decide_eq_false (by omega)) (wc_exit (qe_then_exit (qe_then_exit (qe_block_eq ?_)))))))
  cases oi cz
  exact qd ⟨ac,ad,ae,af,ag,ah,lay112,q,rfl,aN.s,ai,bs,bu⟩
 rintro _ fs ⟨X,Y,aa,I,J,O,lay94,aL,rfl,bS,ft,ef,eg⟩
 refine qr (fl ff46_1 rfl tf44 m1 bS rfl ?_)
 obtain⟨fu,cs315,eh,hrow317,hm318,ei⟩:=seg_see bS.f2 eg
 obtain⟨fv,ej,ek⟩:=ob cx
 refine wl_call wn rfl (rt_call (vs:=[V3 I J O,.func (.func 76) #[] #[]]) co75 rfl) (sort_rowI (T:=tGEntry) sortLay75 sortNone75 rfl (fun w=>Go.Fk.run_isAgg tf116 w) (fun w=>Go.Fk.run_sizeOf tf116 w) (fun a b=>M.impl_SegOf_1 F a b) 76 (Go.Proofs.enters_of func76 (by kernel_rfl) rfl) ei hrow317 hm318 (fun K1 W v x u y r hW h1 h2 hm=>by
  obtain⟨fx,fy,fz,rfl,en,eo,ep⟩:=h1
  obtain⟨fA,fB,fC,rfl,eq,es,et⟩:=h2
  exact(ok_impl_SegOf_1 (dr:=⟨True⟩) F (SH.start (dr:=⟨True⟩) hW) en eo ep eq es et hm).mono fun e w' ⟨K',he,hS',_⟩=>⟨K',he,hS'⟩) ej) ?_
 rintro fD fE ⟨cs335,rfl,bT,hrow337,hm338⟩
 refine⟨_,rfl,?_⟩
 refine nr (lv (rv_loadmS (ds:=[V3 X Y aa,V3 I J O]) tf46 rfl m2 bT rfl rfl) (lw [V3 X Y aa,V3 I J O] tf46 bT.f1 fun fF eu=>(nq (wc_ret ?_))))
 obtain⟨ev,ew,ex,bU⟩:=SH.freezeI eu.f1 hrow337 hm338
 cases oi ek
 exact ez results21 tf46 bU m1 ⟨X,Y,aa,I,J,O,ev,rfl,bU.s,(ef.mono (eh.trans ew)),ex⟩

theorem ok_slices_Equal_int {q0:List Int}{q1:List Int}{r:Bool}(hS:SH w K [] w K [])(i:SliceAt tInt K A a b q0)(s:SliceAt tInt K B c d q1)(hm:M.slices_Equal_int F q0 q1=some r):
  Calls prog 246 #[V3 A a b,V3 B c d] w (R_b w K r):=by
 rw [M.slices_Equal_int] at hm
 refine ci func246 u ntmps246 (sr (lv (r_f u) (nsr (mv u (lv (rv_len underlying71 u i) (mv u (lv (rv_len underlying71 u s) (lv (rv_neq u u) (nq ?_)))))))))
 refine wc_cond u (fun l=>?_) (fun l=>?_)
 ·have m:=cond_t l hm
  refine sr (lv (r_f u) (nq (rr ?_)))
  cases oi m
  exact ey results246 ⟨K,u,hS⟩
 have m:=cond_f l hm
 refine wc_skip (qs (sr (mv u (lv (rv_len underlying71 u i) (lv (r_m u) (nq ?_))))))
 obtain⟨I,J,k⟩:=ob m
 refine wc_cutg (IE I w K [] K [] []) ?_ ?_
 ·refine wc_block ?_
  obtain⟨aq,O,x⟩:=ob J
  refine qf (fun (y:Nat) (C:Unit)=>IV w K [] K [(0,V3 A a b),(1,V3 B c d),(12,V6 (q0.length:Int)),(13,V6 ((y:Nat):Int))] []) O ⟨K,u,hS,kr⟩ ?_ ?_
  ·rintro y C _ R ar hi29 S T ⟨D,rfl,o,f⟩
   refine sr (lv (rv_lss u u) (ns (wc_cond_t u (decide_eq_true (by omega)) (wc_skip (qe_seq (wc_seq (wc_block (sr (mv u (av u (ns (wc_quiet mixed (by kernel_rfl) o ?_))))))))))))
   refine km u (km u ?_)
   obtain⟨U,V,W⟩:=ob S
   refine ki underlying71 tf3 (i.mono f) V fun X Y au aa ab=>?_
   obtain⟨rfl,aw⟩:=aa
   have ac:AtK _ X Y [V6 U]:=ab
   refine kh (rq_load1 tf3 u (ac 0 _ u)) (km u (km u ?_))
   obtain⟨ad,ae,af⟩:=ob W
   refine ki underlying71 tf3 (s.mono f) ae fun ag ah ax ai aj=>?_
   obtain⟨rfl,ay⟩:=ai
   have ak:AtK _ ag ah [V6 ad]:=aj
   refine kh (rq_load1 tf3 u (ak 0 _ u)) (kv (rv_neq u u) (wq_nil ?_))
   rintro az ⟨G,H,al⟩
   refine qe_seq (wcc af u (fun am q=>?_) (fun am q=>?_))
   ·refine sr (lv (r_f u) (nq (wc_ret (qe_block_ret (qe_then_ret (qe_then_ret ?_))))))
    cases oi q
    cases T _ u
    refine qe_block_ret (qe_then_ret ?_)
    cases oi x
    refine qe_then_ret ?_
    cases oi k
    exact ey results246 ⟨G,u,H⟩
   refine wc_skip (qe_block (qg (lv (rv_add_to u u (w64_succ hi29 (SliceAt.max i))) (mv u (wl_nil ?_)))))
   cases oi q
   exact qd ⟨_,u,G,u,H,(f.trans al)⟩
  rintro C _ R an ⟨D,rfl,o,f⟩
  subst an
  refine sr (lv (rv_lss u u) (ns (wc_cond_f u (decide_eq_false (by omega)) (wc_exit (qe_then_exit (qe_then_exit (qe_block_eq ?_)))))))
  cases oi x
  exact qe_mid' ⟨_,D,u,u,o,f⟩ trivial
 rintro _ aA ⟨aB,ao,rfl,rfl,ap,aC⟩
 have k:=elim_l k
 refine qr (lv (r_t u) (nq (wc_ret ?_)))
 cases oi k
 exact ey results246 ⟨ao,u,ap⟩

theorem ok_impl_samePost {q0:GPost}{q1:GPost}{r:Bool}(hS:SH w K [] w K [])(J:rng64 q0.Doc)(l:SliceAt tInt K A a b q0.At)(O:rng64 q1.Doc)(m:SliceAt tInt K B c d q1.At)(hm:M.impl_samePost F q0 q1=some r):
  Calls prog 218 #[.agg #[V6 q0.Doc,V3 A a b],.agg #[V6 q1.Doc,V3 B c d]] w (R_b w K r):=by
 rw [M.impl_samePost] at hm
 refine ci func218 u ntmps218 (sr (bx u hS fun o R q=>?_))
 have s:SH _ _ _ _ _ [obj o [V6 q0.Doc,V3 A a b] 134]:=q
 refine bx u s fun x S y=>?_
 have i:SH _ _ _ _ _ [obj x [V6 q1.Doc,V3 B c d] 134,_]:=y
 refine lv (r_f u) (nr (fl ff134_0 u tf3 m1 i u (fl ff134_0 u tf3 m0 i u (lv (rv_eql u u) (mv u (bt hm (fun f k=>?_) (fun f k=>?_)))))))
 ·refine lg f (rv_fieldAddr ff134_1 u) (lg f (rv_loadm1 tf71 u m1 i u) (lg f (rv_fieldAddr ff134_1 u) (lg f (rv_loadm1 tf71 u m0 i u) ?_)))
  obtain⟨T,C,D⟩:=ob k
  refine wl_call (wg u u f) u (rt_call (vs:=[V3 A a b,V3 B c d]) co246 u) (ok_slices_Equal_int F i.enter0 l m C) ?_
  rintro U V ⟨G,rfl,H⟩
  refine⟨_,u,?_⟩
  have I:=(i.c0 H).t2
  refine lv (rv_pick_t u f u) (av u (nq (wc_ret ?_)))
  cases oi D
  exact ey results218 ⟨G,u,I.s⟩
 iterate 5 refine lu f ?_
 refine lv (p_f u f u) (av u (nq (wc_ret ?_)))
 cases oi k
 exact ey results218 ⟨K,u,i.s⟩
end Go.Proofs.YtpjefkdclnmlfaaGreat
