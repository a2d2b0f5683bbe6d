/-
 Walks of the functions. Printed by gen.py.
-/
import Derived.Test.YtfiahfncijjliaaGreatDoorWalkA0
import Derived.Test.YtfiahfncijjliaaGreatDoorWalkA1
import Derived.Test.YtfiahfncijjliaaGreatDoorWalkA3
set_option linter.unusedVariables false
set_option linter.unusedSectionVars false
set_option maxRecDepth 100000
namespace Go.Proofs.YtfiahfncijjliaaGreatDoor
set_option maxHeartbeats 4000000
open Go Go.Fk Go.RowKit Tryz
variable (F:Nat){w:World}{K:KMap}{Z:List Nat}{g1 g2 g3:Nat}{A B C D G H I J O R S T:Option Addr}{a b c d f i k l m n o p q s v x y aa ab ac ad ae af ag:Nat}
variable [dr:Dr]

theorem ok_impl_SegOf {q0:GConf}{q1:List GDoc}{r:GSeg}(hS:SH w K [] w K [])(bH:SliceAt tStr K A a b q0.Stops)(bI:SliceAt tGSyn K B c d q0.Syns)(ay:SliceAt tGDoc K C f i q1)(hm:M.impl_SegOf F q0 q1=some r):
  Calls prog 74 #[.agg #[V3 A a b,V3 B c d],V3 C f i] w fun e w'=>∃a_1 n_2 c_3 a_5 n_6 c_7 K',e= .returned (.agg #[V3 a_1 n_2 c_3,V3 a_5 n_6 c_7])∧SH w K [] w' K' [tail (V3 a_5 n_6 c_7) 114 3]∧SliceAt tGDoc K' a_1 n_2 c_3 r.Docs∧SliceAt tGEntry K' a_5 n_6 c_7 r.Entries:=by
 rw [M.impl_SegOf] at hm
 refine ci func74 rfl ntmps74 (sr (bx rfl hS fun l eA bV=>?_))
 have bW:SH _ _ _ _ _ [obj l [V3 A a b,V3 B c d] 36]:=bV
 refine al tf41 bW fun k eB bX=>?_
 have bi:SH _ _ _ _ _ [obj k [V3 none 0 0,V3 none 0 0] 41,_]:=bX
 refine ns (wc_seq ?_)
 obtain⟨bY,bZ,ca⟩:=ob hm
 refine wc_cutg (IV w K [] K [(1,V3 C f i),(2,pt l),(4,pt k),(19,.bool bY)] [obj l [V3 A a b,V3 B c d] 36,obj k [V3 none 0 0,V3 none 0 0] 41]) ?_ ?_
 ·refine wc_region (lv (rv_loadmS (ds:=[V3 A a b,V3 B c d]) tf36 rfl m1 bi rfl rfl) ?_)
  obtain⟨eC,cb,cc⟩:=ob bZ
  refine lk co71 (ok_impl_ConfOk F bi.enter0 bH bI cb) ?_
  rintro eD eE ⟨cd,rfl,aK⟩
  have bj:=(bi.c0 aK).t2
  refine lv (rv_not rfl) (mv rfl (bt cc (fun o bk=>?_) (fun o bk=>?_)))
  ·refine lu o (lu o (lu o (lv (p_t rfl o rfl) (wl_nil ?_))))
   cases oi bk
   exact qd ⟨cd,rfl,bj.f1,aK.le⟩
  refine lg o (rv_move rfl) ?_
  obtain⟨eF,ce,cf⟩:=ob bk
  refine wl_call (wg rfl rfl o) rfl (rt_call (vs:=[V3 C f i]) co72 rfl) (ok_impl_DocsOk F bj.enter0 (ay.mono aK.le) ce) ?_
  rintro eG eH ⟨cg,rfl,bJ⟩
  refine⟨_,rfl,?_⟩
  have ch:=(bj.c0 bJ).t2
  refine lg o (rv_not rfl) (lv (rv_pick_f rfl o rfl) (wl_nil ?_))
  cases oi cf
  exact qd ⟨cg,rfl,ch.f1,(aK.le.trans bJ.le)⟩
 rintro _ eI ⟨cj,rfl,bl,S⟩
 refine qe_seq (wcc ca rfl (fun ck bm=>?_) (fun ck bm=>?_))
 ·refine sr (lv (rv_build (cs:=#[V3 none 0 0,V3 none 0 0]) sp41 tf41 rfl (by kernel_rfl)) (lw [V3 none 0 0,V3 none 0 0] tf41 bl.f1 fun eJ bK=>(nq (rr ?_))))
  cases oi bm
  have cl:=bK.nil 114 3
  exact ez results74 tf41 bK m0 ⟨none,0,0,none,0,0,cj,rfl,cl.s,(SliceAt.nil _ _),(SliceAt.nil _ _)⟩
 refine wc_skip (qr (mv rfl ?_))
 obtain⟨eK,cm,cn⟩:=ob bm
 refine lk co117 (ok_impl_cloneDocs F bl.enter0 (ay.mono S) cm) ?_
 rintro eL eM ⟨bn,bo,bp,eN,rfl,U,cp⟩
 have cq:=(bl.c0 U).t3
 refine b0 tGEntry underlying39 tf114 cq fun bq eO br V eP cr=>(lv (rv_build (cs:=#[V3 bn bo bp,V3 bq 0 0]) sp41 tf41 rfl (by kernel_rfl)) (al tf41 cr fun m eQ ct=>?_))
 have cu:SH _ _ _ _ _ [obj m [V3 none 0 0,V3 none 0 0] 41,_,_,_,_]:=ct
 refine lw [V3 bn bo bp,V3 bq 0 0] tf41 cu fun eR cv=>(nsr (mv rfl (lv (rv_len underlying38 rfl (ay.mono ((S.trans U.le).trans V))) (lv (r_m rfl) (nq ?_)))))
 obtain⟨bL,cw,cx⟩:=ob cn
 refine wc_cutg (fun E' w'=>∃X Y aa I J O lay94 aL,E'=[(4,pt k),(5,pt m)]∧SH w K [] w' aL [obj k [V3 none 0 0,V3 none 0 0] 41,obj m [V3 X Y aa,V3 I J O] 41,pack (segItems 114 119 3 I J O lay94)]∧KLe br aL∧SliceAt tGDoc aL X Y aa bL.Docs∧LayOk lay94 bL.Entries) ?_ ?_
 ·refine wc_block ?_
  obtain⟨eS,cy,cz⟩:=ob cw
  have cA:=seg_empty (TP:=119) (TI:=3) cv.f1
  have cB:=cA.f1.f4.f4.sb (sk (sk (sk (sk (sd sz)))))
  refine qF (fun (ab:Nat) (aM:GSeg) E' w'=>∃ac ad ae af ag ah lay112 q,E'=[(2,pt l),(4,pt k),(5,pt m),(25,V3 C f i),(26,V6 (q1.length:Int)),(27,V6 ((ab:Nat):Int))]∧SH w K [] w' q [obj l [V3 A a b,V3 B c d] 36,obj k [V3 none 0 0,V3 none 0 0] 41,obj m [V3 ac ad ae,V3 af ag ah] 41,pack (segItems 114 119 3 af ag ah lay112)]∧KLe br q∧SliceAt tGDoc q ac ad ae aM.Docs∧LayOk lay112 aM.Entries) cy ⟨bn,bo,bp,bq,0,0,[],br,rfl,cB,kr,(cp.mono V),⟨(fun _ h=>nomatch h),rfl⟩⟩ ?_ ?_
  ·rintro ab aM _ cC eT hi121 cD ⟨ac,ad,ae,af,ag,ah,lay112,q,rfl,aN,ai,bs,bu⟩
   refine sr (lv (rv_lss rfl rfl) (ns (wc_cond_t rfl (decide_eq_true (by omega)) (wc_skip (qe_seq (wc_seq (wc_block (sr ?_))))))))
   obtain⟨s,cE,cF⟩:=ob cD
   refine li underlying38 tf89 (SliceAt.mono (((S.trans U.le).trans V).trans ai) ay) cE fun cG cH eU cI cJ=>?_
   obtain⟨D,G,H,az,aA,aB,rfl,cK,bv,eV⟩:=cI
   have cL:AtK _ cG cH [V6 s.Id,V3 D G H,V3 az aA aB]:=cJ
   refine lv (rv_loadS tf89 rfl aN cL rfl) (al tf89 aN fun R eW cM=>?_)
   have cN:SH _ _ _ _ _ [obj R [V6 0,V3 none 0 0,V3 none 0 0] 89,_,_,_,_]:=cM
   refine lw [V6 s.Id,V3 D G H,V3 az aA aB] tf89 cN fun eX bM=>(nr (fl ff89_1 rfl tf86 m0 bM rfl (lv (rv_len underlying86 rfl bv) (lv (r_m rfl) (nq ?_)))))
   obtain⟨bN,cO,cP⟩:=ob cF
   refine wc_cutg (fun E' w'=>∃aO aP aQ aR aS aT lay162 aC,E'=[(2,pt l),(4,pt k),(5,pt m),(25,V3 C f i),(26,V6 (q1.length:Int)),(27,V6 ((ab:Nat):Int))]∧SH w K [] w' aC [obj l [V3 A a b,V3 B c d] 36,obj k [V3 none 0 0,V3 none 0 0] 41,obj m [V3 aO aP aQ,V3 aR aS aT] 41,pack (segItems 114 119 3 aR aS aT lay162)]∧KLe q aC∧SliceAt tGDoc aC aO aP aQ bN.Docs∧LayOk lay162 bN.Entries) ?_ ?_
   ·refine wc_block ?_
    obtain⟨eY,cQ,cR⟩:=ob cO
    refine qF (fun (aU:Nat) (aV:GSeg) E' w'=>∃aj ak am an ao ap lay180 aq,E'=[(2,pt l),(4,pt k),(5,pt m),(7,pt R),(25,V3 C f i),(26,V6 (q1.length:Int)),(27,V6 ((ab:Nat):Int)),(32,V3 D G H),(33,V6 (s.Fields.length:Int)),(34,V6 ((aU:Nat):Int))]∧SH w K [] w' aq [obj l [V3 A a b,V3 B c d] 36,obj k [V3 none 0 0,V3 none 0 0] 41,obj m [V3 aj ak am,V3 an ao ap] 41,pack (segItems 114 119 3 an ao ap lay180),obj R [V6 s.Id,V3 D G H,V3 az aA aB] 89]∧KLe q aq∧SliceAt tGDoc aq aj ak am aV.Docs∧LayOk lay180 aV.Entries) cQ ⟨ac,ad,ae,af,ag,ah,lay112,q,rfl,bM.f4.f4.f4.f4,kr,bs,bu⟩ ?_ ?_
    ·rintro aU aV _ cS eZ hi187 cT ⟨aj,ak,am,an,ao,ap,lay180,aq,rfl,aW,ar,bz,bA⟩
     refine sr (lv (rv_lss rfl rfl) (ns (wc_cond_t rfl (decide_eq_true (by omega)) (wc_skip (qe_seq (wc_seq (wc_block (sr ?_))))))))
     obtain⟨au,cU,cV⟩:=ob cT
     refine li underlying86 tf170 (bv.mono ar) cU fun cW cX fb cY cZ=>?_
     obtain⟨rfl,da,db⟩:=cY
     have dc:AtK _ cW cX [sv au.Name,sv au.Text]:=cZ
     refine lv (rv_loadS tf170 rfl aW dc rfl) (al tf170 aW fun bB fc dd=>?_)
     have de:SH _ _ _ _ _ [obj bB [sv [],sv []] 170,_,_,_,_,_]:=dd
     refine lw [sv au.Name,sv au.Text] tf170 de fun fd aX=>(nr (lv (rv_loadmS (ds:=[V3 A a b,V3 B c d]) tf36 rfl m1 aX rfl rfl) (fl ff170_1 rfl tf9 m0 aX rfl ?_)))
     obtain⟨df,dg,dh⟩:=ob cV
     refine lk co88 (ok_impl_TermsOf F aX.enter0 (SliceAt.mono ((((S.trans U.le).trans V).trans ai).trans ar) bH) (SliceAt.mono ((((S.trans U.le).trans V).trans ai).trans ar) bI) db dg) ?_
     rintro fe fg ⟨di,dj,dk,bC,rfl,bD,bE⟩
     have dl:=(aX.c0 bD).t7
     refine lv (rv_len underlying133 rfl bE) (lv (r_m rfl) (nq ?_))
     obtain⟨bO,dm,dn⟩:=ob dh
     refine wc_cutg (fun E' w'=>∃aY aZ ba bb bc bd lay233 aD,E'=[(2,pt l),(4,pt k),(5,pt m),(7,pt R),(25,V3 C f i),(26,V6 (q1.length:Int)),(27,V6 ((ab:Nat):Int)),(32,V3 D G H),(33,V6 (s.Fields.length:Int)),(34,V6 ((aU:Nat):Int))]∧SH w K [] w' aD [obj l [V3 A a b,V3 B c d] 36,obj k [V3 none 0 0,V3 none 0 0] 41,obj m [V3 aY aZ ba,V3 bb bc bd] 41,pack (segItems 114 119 3 bb bc bd lay233),obj R [V6 s.Id,V3 D G H,V3 az aA aB] 89]∧KLe bC aD∧SliceAt tGDoc aD aY aZ ba bO.Docs∧LayOk lay233 bO.Entries) ?_ ?_
     ·refine wc_block ?_
      obtain⟨fh,dp,dq⟩:=ob dm
      have dt:=dl.f1.f6.f6.f6.f6.f6.sb (sk (sk (sk (sk (sk (sk (sd sz)))))))
      refine qF (fun (bP:Nat) (be:GSeg) E' w'=>∃aE aF aG aH aI aJ lay251 aw,E'=[(2,pt l),(4,pt k),(5,pt m),(7,pt R),(9,pt bB),(25,V3 C f i),(26,V6 (q1.length:Int)),(27,V6 ((ab:Nat):Int)),(32,V3 D G H),(33,V6 (s.Fields.length:Int)),(34,V6 ((aU:Nat):Int)),(41,V3 di dj dk),(42,V6 (df.length:Int)),(43,V6 ((bP:Nat):Int))]∧SH w K [] w' aw [obj l [V3 A a b,V3 B c d] 36,obj k [V3 none 0 0,V3 none 0 0] 41,obj m [V3 aE aF aG,V3 aH aI aJ] 41,pack (segItems 114 119 3 aH aI aJ lay251),obj R [V6 s.Id,V3 D G H,V3 az aA aB] 89,obj bB [sv au.Name,sv au.Text] 170]∧KLe bC aw∧SliceAt tGDoc aw aE aF aG be.Docs∧LayOk lay251 be.Entries) dp ⟨aj,ak,am,an,ao,ap,lay180,bC,rfl,dt,kr,(bz.mono bD.le),bA⟩ ?_ ?_
      ·rintro bP be _ du fi hi261 dv ⟨aE,aF,aG,aH,aI,aJ,lay251,aw,rfl,bf,bg,bF,bG⟩
       refine sr (lv (rv_lss rfl rfl) (ns (wc_cond_t rfl (decide_eq_true (by omega)) (wc_skip (qe_seq (wc_seq (wc_block (sr ?_))))))))
       obtain⟨ax,dw,dx⟩:=ob dv
       refine li underlying133 tf136 (bE.mono bg) dw fun dy dz fj dA dB=>?_
       obtain⟨rfl,dC,dD⟩:=dA
       have dE:AtK _ dy dz [sv ax.Text,V6 ax.At]:=dB
       refine lv (rv_loadS tf136 rfl bf dE rfl) (al tf136 bf fun dF fk dG=>?_)
       have dH:SH _ _ _ _ _ [obj dF [sv [],V6 0] 136,_,_,_,_,_,_]:=dG
       refine lw [sv ax.Text,V6 ax.At] tf136 dH fun fm bh=>(nq (wc_region (fl ff170_0 rfl tf9 m6 bh rfl (lv (rv_loadmS (ds:=[sv ax.Text,V6 ax.At]) tf136 rfl m0 bh rfl rfl) (fl ff89_0 rfl tf3 m5 bh rfl ?_)))))
       obtain⟨fn,dI,dJ⟩:=ob dx
       have bQ:=bh.f4.f4
       refine lk co118 (ok_impl_Seg_put F bQ.e2 bF bG da dC dD cK dI) ?_
       rintro fo fp ⟨dK,dL,dM,dN,dO,dP,lay296,dQ,rfl,bR,dR,dS⟩
       have dT:=(bQ.c2 bR).t7
       refine nb (qg (lv (rv_add_to rfl rfl (w64_succ hi261 (SliceAt.max bE))) (mv rfl (wl_nil ?_))))
       cases oi dJ
       exact qd ⟨dK,dL,dM,dN,dO,dP,lay296,dQ,rfl,dT.f6.f6.f3.f3.f6.f6.s,(bg.trans bR.le),dR,dS⟩
      rintro be _ du dU ⟨aE,aF,aG,aH,aI,aJ,lay251,aw,rfl,bf,bg,bF,bG⟩
      subst dU
      refine sr (lv (rv_lss rfl rfl) (ns (wc_cond_f rfl (decide_eq_false (by omega)) (wc_exit (qe_then_exit (qe_then_exit (qe_block_eq ?_)))))))
      cases oi dq
      exact qd ⟨aE,aF,aG,aH,aI,aJ,lay251,aw,rfl,bf.s,bg,bF,bG⟩
     rintro _ fq ⟨aY,aZ,ba,bb,bc,bd,lay233,aD,rfl,dV,dW,dX,dY⟩
     refine qe_block (qg (lv (rv_add_to rfl rfl (w64_succ hi187 (SliceAt.max bv))) (mv rfl (wl_nil ?_))))
     cases oi dn
     exact qd ⟨aY,aZ,ba,bb,bc,bd,lay233,aD,rfl,dV,((ar.trans bD.le).trans dW),dX,dY⟩
    rintro aV _ cS dZ ⟨aj,ak,am,an,ao,ap,lay180,aq,rfl,aW,ar,bz,bA⟩
    subst dZ
    refine sr (lv (rv_lss rfl rfl) (ns (wc_cond_f rfl (decide_eq_false (by omega)) (wc_exit (qe_then_exit (qe_then_exit (qe_block_eq ?_)))))))
    cases oi cR
    exact qd ⟨aj,ak,am,an,ao,ap,lay180,aq,rfl,aW.s,ar,bz,bA⟩
   rintro _ fr ⟨aO,aP,aQ,aR,aS,aT,lay162,aC,rfl,ea,eb,ec,ed⟩
   refine qe_block (qg (lv (rv_add_to rfl rfl (w64_succ hi121 (SliceAt.max (ay.mono ((S.trans U.le).trans V))))) (mv rfl (wl_nil ?_))))
   cases oi cP
   exact qd ⟨aO,aP,aQ,aR,aS,aT,lay162,aC,rfl,ea,(ai.trans eb),ec,ed⟩
  rintro aM _ cC ee ⟨ac,ad,ae,af,ag,ah,lay112,q,rfl,aN,ai,bs,bu⟩
  subst ee
  refine sr (lv (rv_lss rfl rfl) (ns (wc_cond_f rfl (decide_eq_false (by omega)) (wc_exit (qe_then_exit (qe_then_exit (qe_block_eq ?_)))))))
  cases oi cz
  exact qd ⟨ac,ad,ae,af,ag,ah,lay112,q,rfl,aN.s,ai,bs,bu⟩
 rintro _ fs ⟨X,Y,aa,I,J,O,lay94,aL,rfl,bS,ft,ef,eg⟩
 refine qr (fl ff41_1 rfl tf39 m1 bS rfl ?_)
 obtain⟨fu,cs315,eh,hrow317,hm318,ei⟩:=seg_see bS.f2 eg
 obtain⟨fv,ej,ek⟩:=ob cx
 refine wl_call wn rfl (rt_call (vs:=[V3 I J O,.func (.func 120) #[] #[]]) co119 rfl) (sort_rowI (T:=tGEntry) sortLay119 sortNone119 rfl (fun w=>Go.Fk.run_isAgg tf114 w) (fun w=>Go.Fk.run_sizeOf tf114 w) (fun a b=>M.impl_SegOf_1 F a b) 120 (Go.Proofs.enters_of func120 (by kernel_rfl) rfl) ei hrow317 hm318 (fun K1 W v x u y r hW h1 h2 hm=>by
  obtain⟨fx,fy,fz,rfl,en,eo,ep⟩:=h1
  obtain⟨fA,fB,fC,rfl,eq,es,et⟩:=h2
  exact(ok_impl_SegOf_1 (dr:=⟨True⟩) F (SH.start (dr:=⟨True⟩) hW) en eo ep eq es et hm).mono fun e w' ⟨K',he,hS',_⟩=>⟨K',he,hS'⟩) ej) ?_
 rintro fD fE ⟨cs335,rfl,bT,hrow337,hm338⟩
 refine⟨_,rfl,?_⟩
 refine nr (lv (rv_loadmS (ds:=[V3 X Y aa,V3 I J O]) tf41 rfl m2 bT rfl rfl) (lw [V3 X Y aa,V3 I J O] tf41 bT.f1 fun fF eu=>(nq (wc_ret ?_))))
 obtain⟨ev,ew,ex,bU⟩:=SH.freezeI eu.f1 hrow337 hm338
 cases oi ek
 exact ez results74 tf41 bU m1 ⟨X,Y,aa,I,J,O,ev,rfl,bU.s,(ef.mono (eh.trans ew)),ex⟩

theorem ok_impl_SegOk {q0:GConf}{q1:GSeg}{r:Bool}(hS:SH w K [] w K [])(T:SliceAt tStr K A a b q0.Stops)(U:SliceAt tGSyn K B c d q0.Syns)(V:SliceAt tGDoc K C f i q1.Docs)(ab:SliceAt tGEntry K D k l q1.Entries)(hm:M.impl_SegOk F q0 q1=some r):
  Calls prog 35 #[.agg #[V3 A a b,V3 B c d],.agg #[V3 C f i,V3 D k l]] w (R_b w K r):=by
 rw [M.impl_SegOk] at hm
 refine ci func35 u ntmps35 (sr (bx u hS fun s az ac=>?_))
 have ad:SH _ _ _ _ _ [obj s [V3 A a b,V3 B c d] 36]:=ac
 refine bx u ad fun x aA ae=>?_
 have O:SH _ _ _ _ _ [obj x [V3 C f i,V3 D k l] 41,_]:=ae
 refine lv (r_f u) (ns (wc_seq ?_))
 obtain⟨af,ag,ah⟩:=ob hm
 refine wc_cutg (IV w K [] K [(2,pt s),(3,pt x),(13,.bool af)] [obj s [V3 A a b,V3 B c d] 36,obj x [V3 C f i,V3 D k l] 41]) ?_ ?_
 ·refine wc_region (lv (rv_loadmS (ds:=[V3 A a b,V3 B c d]) tf36 u m1 O u u) ?_)
  obtain⟨aB,ai,aj⟩:=ob ag
  refine lk co71 (ok_impl_ConfOk F O.enter0 T U ai) ?_
  rintro aC aD ⟨ak,rfl,y⟩
  have G:=(O.c0 y).t2
  refine lv (rv_not u) (mv u (bt aj (fun m R=>?_) (fun m R=>?_)))
  ·refine lu m (lu m (lu m (lu m (lv (p_t u m u) (wl_nil ?_)))))
   cases oi R
   exact qd ⟨ak,u,G.f1,y.le⟩
  refine lg m (rv_fieldAddr ff41_0 u) (lg m (rv_loadm1 tf38 u m0 G u) ?_)
  obtain⟨aE,al,am⟩:=ob R
  refine wl_call (wg u u m) u (rt_call (vs:=[V3 C f i]) co72 u) (ok_impl_DocsOk F G.enter0 (V.mono y.le) al) ?_
  rintro aF aG ⟨an,rfl,W⟩
  refine⟨_,u,?_⟩
  have ao:=(G.c0 W).t2
  refine lg m (rv_not u) (lv (rv_pick_f u m u) (wl_nil ?_))
  cases oi am
  exact qd ⟨an,u,ao.f1,(y.le.trans W.le)⟩
 rintro _ aH ⟨X,rfl,Y,H⟩
 refine qe_seq (wcc ah u (fun ap S=>?_) (fun ap S=>?_))
 ·refine sr (lv (r_f u) (nq (rr ?_)))
  cases oi S
  exact ey results35 ⟨X,u,Y.s⟩
 refine wc_skip (qs ?_)
 have o:=Y.drew
 refine j_0 (fun w'=>Holds X w'∧HasObj s [V3 A a b,V3 B c d] w'∧HasObj x [V3 C f i,V3 D k l] w') 9 [] mixed ⟨o.hasK kr,o.hasObj m0,o.hasObj m1⟩ (jh 0 u (fun _ h=>rh_loadmS (ds:=[V3 A a b,V3 B c d]) tf36 u u u h.2.1) (jv 1 u (rv_fieldAddr ff41_0 u) (jh 2 u (fun _ h=>rh_loadm1 tf38 u u h.2.2) (jv 5 u (rv_fieldAddr ff41_1 u) (jh 6 u (fun _ h=>rh_loadm1 tf39 u u h.2.2) (j1 3 u ?_))))))
 obtain⟨aI,aq,ar⟩:=ob S
 refine lk co74 (ok_impl_SegOf F o.enter0 (T.mono H) (U.mono H) (V.mono H) aq) ?_
 rintro aJ aK ⟨aL,aM,aN,aO,aP,aQ,aR,rfl,I,aS,au⟩
 have q:=(o.c0 I).t3
 refine j_o ⟨q.hasK I.le,q.hasObj m1,q.hasObj m2⟩ (jv 4 u (rv_field fg41_1 tf39 u (.inl ⟨u,u⟩)) (j1 7 u ?_))
 obtain⟨aT,aw,ax⟩:=ob ar
 refine lk co73 (ok_slices_EqualFunc_Entry__impl_sameEntry F q.enter0 au (ab.mono (H.trans I.le)) aw) ?_
 rintro aU aV ⟨ay,rfl,aa⟩
 have J:=(q.c0 aa).t3
 refine j_o ⟨J.hasK (I.le.trans aa.le),J.hasObj m1,J.hasObj m2⟩ (jv 8 u (rv_assign u) (jd (qe_seq (wc_ret ?_))))
 cases oi ax
 exact ey results35 ⟨ay,u,J.s⟩
end Go.Proofs.YtfiahfncijjliaaGreatDoor
