/-
 Walks of the functions. Printed by gen.py.
-/
import Derived.Test.YtfiahfncijjliaaGreatDoorWalkA0
import Derived.Test.YtfiahfncijjliaaGreatDoorWalkA1
import Derived.Test.YtfiahfncijjliaaGreatDoorWalkA3
set_option linter.unusedVariables false
set_option linter.unusedSectionVars false
set_option maxRecDepth 100000
namespace Go.Proofs.YtfiahfncijjliaaGreatDoor
set_option maxHeartbeats 4000000
open Go Go.Fk Go.RowKit Tryz
variable (F:Nat){w:World}{K:KMap}{Z:List Nat}{g1 g2 g3:Nat}{A B C D G H I J O R S T:Option Addr}{a b c d f i k l m n o p q s v x y aa ab ac ad ae af ag:Nat}
variable [dr:Dr]

theorem ok_spec_TermOf {q0:GConf}{q1:Str}{r:Str}(hS:SH w K [] w K [])(C:SliceAt tStr K A a b q0.Stops)(D:SliceAt tGSyn K B c d q0.Syns)(G:q1.length≤maxLen)(hm:M.spec_TermOf F q0 q1=some r):
  Calls prog 47 #[.agg #[V3 A a b,V3 B c d],sv q1] w fun e w'=>∃K',e= .returned (sv r)∧SH w K [] w' K' []∧r.length≤maxLen:=by
 rw [M.spec_TermOf] at hm
 refine ci func47 u ntmps47 (sr (bx u hS fun k au S=>?_))
 have l:SH _ _ _ _ _ [obj k [V3 A a b,V3 B c d] 36]:=S
 refine lv (r_s u) (ns (wc_seq ?_))
 obtain⟨T,U,V⟩:=ob hm
 refine wc_cutg (IV w K [] K [(1,sv q1),(2,pt k),(13,.bool T)] [obj k [V3 A a b,V3 B c d] 36]) ?_ ?_
 ·refine wc_region (lv (rv_loadmS (ds:=[V3 A a b,V3 B c d]) tf36 u m0 l u u) ?_)
  obtain⟨aw,W,X⟩:=ob U
  refine lk co62 (ok_spec_l2Ok F l.enter0 C D W) ?_
  rintro ax ay ⟨Y,rfl,m⟩
  have o:=(l.c0 m).t1
  refine lv (rv_not u) (mv u (bt X (fun f q=>?_) (fun f q=>?_)))
  ·refine lu f (lu f (lu f (lv (p_t u f u) (wl_nil ?_))))
   cases oi q
   exact qd ⟨Y,u,o,m.le⟩
  refine lg f (rv_move u) ?_
  obtain⟨az,aa,ab⟩:=ob q
  refine wl_call (wg u u f) u (rt_call (vs:=[sv q1]) co44 u) (ok_spec_l1WordOk F o.enter0 G aa) ?_
  rintro aA aB ⟨ac,rfl,H⟩
  refine⟨_,u,?_⟩
  have ad:=(o.c0 H).t1
  refine lg f (rv_not u) (lv (rv_pick_f u f u) (wl_nil ?_))
  cases oi ab
  exact qd ⟨ac,u,ad,(m.le.trans H.le)⟩
 rintro _ aC ⟨ae,rfl,i,I⟩
 refine qe_seq (wcc V u (fun af s=>?_) (fun af s=>?_))
 ·refine sr (lv (r_s u) (nq (rr ?_)))
  cases oi s
  exact ey results47 ⟨ae,u,i.s,(by decide :([]:Str).length≤maxLen)⟩
 refine wc_skip (qr (lv (rv_loadmS (ds:=[V3 A a b,V3 B c d]) tf36 u m0 i u u) (mv u ?_)))
 obtain⟨aD,ag,ah⟩:=ob s
 refine lk co84 (ok_spec_l2Terms F i.enter0 (C.mono I) (D.mono I) G ag) ?_
 rintro aE aF ⟨aG,aH,aI,J,rfl,ai,O⟩
 have x:=(i.c0 ai).t2
 refine av u (nsr (mv u (lv (rv_len underlying133 u O) (lv (rv_eql u u) (nq (wcc ah u (fun aj y=>?_) (fun aj y=>?_)))))))
 ·refine sr (lv (r_s u) (nq (rr ?_)))
  cases oi y
  exact ey results47 ⟨J,u,x.s,(by decide :([]:Str).length≤maxLen)⟩
 refine wc_skip (qr (mv u ?_))
 obtain⟨R,ak,al⟩:=ob y
 refine li underlying133 tf136 O ak fun am an aJ ao ap=>?_
 obtain⟨rfl,aq,aK⟩:=ao
 have ar:AtK _ am an [sv R.Text,V6 R.At]:=ap
 refine fa ff136_0 u (lv (rv_load1 tf9 u x (ar 0 _ u)) (av u (nq (wc_ret ?_))))
 cases oi al
 exact ey results47 ⟨J,u,x.s,aq⟩

theorem ok_impl_SegOf {q0:GConf}{q1:List GDoc}{r:GSeg}(hS:SH w K [] w K [])(bH:SliceAt tStr K A a b q0.Stops)(bI:SliceAt tGSyn K B c d q0.Syns)(ay:SliceAt tGDoc K C f i q1)(hm:M.impl_SegOf F q0 q1=some r):
  Calls prog 74 #[.agg #[V3 A a b,V3 B c d],V3 C f i] w fun e w'=>∃a_1 n_2 c_3 a_5 n_6 c_7 K',e= .returned (.agg #[V3 a_1 n_2 c_3,V3 a_5 n_6 c_7])∧SH w K [] w' K' [tail (V3 a_5 n_6 c_7) 114 3]∧SliceAt tGDoc K' a_1 n_2 c_3 r.Docs∧SliceAt tGEntry K' a_5 n_6 c_7 r.Entries:=by
 rw [M.impl_SegOf] at hm
 refine ci func74 rfl ntmps74 (sr (bx rfl hS fun l eA bV=>?_))
 have bW:SH _ _ _ _ _ [obj l [V3 A a b,V3 B c d] 36]:=bV
 refine al tf41 bW fun k eB bX=>?_
 have bi:SH _ _ _ _ _ [obj k [V3 none 0 0,V3 none 0 0] 41,_]:=bX
 refine ns (wc_seq ?_)
 obtain⟨bY,bZ,ca⟩:=ob hm
 refine wc_cutg (IV w K [] K [(1,V3 C f i),(2,pt l),(4,pt k),(19,.bool bY)] [obj l [V3 A a b,V3 B c d] 36,obj k [V3 none 0 0,V3 none 0 0] 41]) ?_ ?_
 ·refine wc_region (lv (rv_loadmS (ds:=[V3 A a b,V3 B c d]) tf36 rfl m1 bi rfl rfl) ?_)
  obtain⟨eC,cb,cc⟩:=ob bZ
  refine lk co71 (ok_impl_ConfOk F bi.enter0 bH bI cb) ?_
  rintro eD eE ⟨cd,rfl,aK⟩
  have bj:=(bi.c0 aK).t2
  refine lv (rv_not rfl) (mv rfl (bt cc (fun o bk=>?_) (fun o bk=>?_)))
  ·refine lu o (lu o (lu o (lv (p_t rfl o rfl) (wl_nil ?_))))
   cases oi bk
   exact qd ⟨cd,rfl,bj.f1,aK.le⟩
  refine lg o (rv_move rfl) ?_
  obtain⟨eF,ce,cf⟩:=ob bk
  refine wl_call (wg rfl rfl o) rfl (rt_call (vs:=[V3 C f i]) co72 rfl) (ok_impl_DocsOk F bj.enter0 (ay.mono aK.le) ce) ?_
  rintro eG eH ⟨cg,rfl,bJ⟩
  refine⟨_,rfl,?_⟩
  have ch:=(bj.c0 bJ).t2
  refine lg o (rv_not rfl) (lv (rv_pick_f rfl o rfl) (wl_nil ?_))
  cases oi cf
  exact qd ⟨cg,rfl,ch.f1,(aK.le.trans bJ.le)⟩
 rintro _ eI ⟨cj,rfl,bl,S⟩
 refine qe_seq (wcc ca rfl (fun ck bm=>?_) (fun ck bm=>?_))
 ·refine sr (lv (rv_build (cs:=#[V3 none 0 0,V3 none 0 0]) sp41 tf41 rfl (by kernel_rfl)) (lw [V3 none 0 0,V3 none 0 0] tf41 bl.f1 fun eJ bK=>(nq (rr ?_))))
  cases oi bm
  have cl:=bK.nil 114 3
  exact ez results74 tf41 bK m0 ⟨none,0,0,none,0,0,cj,rfl,cl.s,(SliceAt.nil _ _),(SliceAt.nil _ _)⟩
 refine wc_skip (qr (mv rfl ?_))
 obtain⟨eK,cm,cn⟩:=ob bm
 refine lk co117 (ok_impl_cloneDocs F bl.enter0 (ay.mono S) cm) ?_
 rintro eL eM ⟨bn,bo,bp,eN,rfl,U,cp⟩
 have cq:=(bl.c0 U).t3
 refine b0 tGEntry underlying39 tf114 cq fun bq eO br V eP cr=>(lv (rv_build (cs:=#[V3 bn bo bp,V3 bq 0 0]) sp41 tf41 rfl (by kernel_rfl)) (al tf41 cr fun m eQ ct=>?_))
 have cu:SH _ _ _ _ _ [obj m [V3 none 0 0,V3 none 0 0] 41,_,_,_,_]:=ct
 refine lw [V3 bn bo bp,V3 bq 0 0] tf41 cu fun eR cv=>(nsr (mv rfl (lv (rv_len underlying38 rfl (ay.mono ((S.trans U.le).trans V))) (lv (r_m rfl) (nq ?_)))))
 obtain⟨bL,cw,cx⟩:=ob cn
 refine wc_cutg (fun E' w'=>∃X Y aa I J O lay94 aL,E'=[(4,pt k),(5,pt m)]∧SH w K [] w' aL [obj k [V3 none 0 0,V3 none 0 0] 41,obj m [V3 X Y aa,V3 I J O] 41,pack (segItems 114 119 3 I J O lay94)]∧KLe br aL∧SliceAt tGDoc aL X Y aa bL.Docs∧LayOk lay94 bL.Entries) ?_ ?_
 ·refine wc_block ?_
  obtain⟨eS,cy,cz⟩:=ob cw
  have cA:=seg_empty (TP:=119) (TI:=3) cv.f1
  have cB:=cA.f1.f4.f4.sb (sk (sk (sk (sk (sd sz)))))
  refine qF (fun (ab:Nat) (aM:GSeg) E' w'=>∃ac ad ae af ag ah lay112 q,E'=[(2,pt l),(4,pt k),(5,pt m),(25,V3 C f i),(26,V6 (q1.length:Int)),(27,V6 ((ab:Nat):Int))]∧SH w K [] w' q [obj l [V3 A a b,V3 B c d] 36,obj k [V3 none 0 0,V3 none 0 0] 41,obj m [V3 ac ad ae,V3 af ag ah] 41,pack (segItems 114 119 3 af ag ah lay112)]∧KLe br q∧SliceAt tGDoc q ac ad ae aM.Docs∧LayOk lay112 aM.Entries) cy ⟨bn,bo,bp,bq,0,0,[],br,rfl,cB,kr,(cp.mono V),⟨(fun _ h=>nomatch h),rfl⟩⟩ ?_ ?_
  ·rintro ab aM _ cC eT hi121 cD ⟨ac,ad,ae,af,ag,ah,lay112,q,rfl,aN,ai,bs,bu⟩
   refine sr (lv (rv_lss rfl rfl) (ns (wc_cond_t rfl (decide_eq_true (by omega)) (wc_skip (qe_seq (wc_seq (wc_block (sr ?_))))))))
   obtain⟨s,cE,cF⟩:=ob cD
   refine li underlying38 tf89 (SliceAt.mono (((S.trans U.le).trans V).trans ai) ay) cE fun cG cH eU cI cJ=>?_
   obtain⟨D,G,H,az,aA,aB,rfl,cK,bv,eV⟩:=cI
   have cL:AtK _ cG cH [V6 s.Id,V3 D G H,V3 az aA aB]:=cJ
   refine lv (rv_loadS tf89 rfl aN cL rfl) (al tf89 aN fun R eW cM=>?_)
   have cN:SH _ _ _ _ _ [obj R [V6 0,V3 none 0 0,V3 none 0 0] 89,_,_,_,_]:=cM
   refine lw [V6 s.Id,V3 D G H,V3 az aA aB] tf89 cN fun eX bM=>(nr (fl ff89_1 rfl tf86 m0 bM rfl (lv (rv_len underlying86 rfl bv) (lv (r_m rfl) (nq ?_)))))
   obtain⟨bN,cO,cP⟩:=ob cF
   refine wc_cutg (fun E' w'=>∃aO aP aQ aR aS aT lay162 aC,E'=[(2,pt l),(4,pt k),(5,pt m),(25,V3 C f i),(26,V6 (q1.length:Int)),(27,V6 ((ab:Nat):Int))]∧SH w K [] w' aC [obj l [V3 A a b,V3 B c d] 36,obj k [V3 none 0 0,V3 none 0 0] 41,obj m [V3 aO aP aQ,V3 aR aS aT] 41,pack (segItems 114 119 3 aR aS aT lay162)]∧KLe q aC∧SliceAt tGDoc aC aO aP aQ bN.Docs∧LayOk lay162 bN.Entries) ?_ ?_
   ·refine wc_block ?_
    obtain⟨eY,cQ,cR⟩:=ob cO
    refine qF (fun (aU:Nat) (aV:GSeg) E' w'=>∃aj ak am an ao ap lay180 aq,E'=[(2,pt l),(4,pt k),(5,pt m),(7,pt R),(25,V3 C f i),(26,V6 (q1.length:Int)),(27,V6 ((ab:Nat):Int)),(32,V3 D G H),(33,V6 (s.Fields.length:Int)),(34,V6 ((aU:Nat):Int))]∧SH w K [] w' aq [obj l [V3 A a b,V3 B c d] 36,obj k [V3 none 0 0,V3 none 0 0] 41,obj m [V3 aj ak am,V3 an ao ap] 41,pack (segItems 114 119 3 an ao ap lay180),obj R [V6 s.Id,V3 D G H,V3 az aA aB] 89]∧KLe q aq∧SliceAt tGDoc aq aj ak am aV.Docs∧LayOk lay180 aV.Entries) cQ ⟨ac,ad,ae,af,ag,ah,lay112,q,rfl,bM.f4.f4.f4.f4,kr,bs,bu⟩ ?_ ?_
    ·rintro aU aV _ cS eZ hi187 cT ⟨aj,ak,am,an,ao,ap,lay180,aq,rfl,aW,ar,bz,bA⟩
     refine sr (lv (rv_lss rfl rfl) (ns (wc_cond_t rfl (decide_eq_true (by omega)) (wc_skip (qe_seq (wc_seq (wc_block (sr ?_))))))))
     obtain⟨au,cU,cV⟩:=ob cT
     refine li underlying86 tf170 (bv.mono ar) cU fun cW cX fb cY cZ=>?_
     obtain⟨rfl,da,db⟩:=cY
     have dc:AtK _ cW cX [sv au.Name,sv au.Text]:=cZ
     refine lv (rv_loadS tf170 rfl aW dc rfl) (al tf170 aW fun bB fc dd=>?_)
     have de:SH _ _ _ _ _ [obj bB [sv [],sv []] 170,_,_,_,_,_]:=dd
     refine lw [sv au.Name,sv au.Text] tf170 de fun fd aX=>(nr (lv (rv_loadmS (ds:=[V3 A a b,V3 B c d]) tf36 rfl m1 aX rfl rfl) (fl ff170_1 rfl tf9 m0 aX rfl ?_)))
     obtain⟨df,dg,dh⟩:=ob cV
     refine lk co88 (ok_impl_TermsOf F aX.enter0 (SliceAt.mono ((((S.trans U.le).trans V).trans ai).trans ar) bH) (SliceAt.mono ((((S.trans U.le).trans V).trans ai).trans ar) bI) db dg) ?_
     rintro fe fg ⟨di,dj,dk,bC,rfl,bD,bE⟩
     have dl:=(aX.c0 bD).t7
     refine lv (rv_len underlying133 rfl bE) (lv (r_m rfl) (nq ?_))
     obtain⟨bO,dm,dn⟩:=ob dh
     refine wc_cutg (fun E' w'=>∃aY aZ ba bb bc bd lay233 aD,E'=[(2,pt l),(4,pt k),(5,pt m),(7,pt R),(25,V3 C f i),(26,V6 (q1.length:Int)),(27,V6 ((ab:Nat):Int)),(32,V3 D G H),(33,V6 (s.Fields.length:Int)),(34,V6 ((aU:Nat):Int))]∧SH w K [] w' aD [obj l [V3 A a b,V3 B c d] 36,obj k [V3 none 0 0,V3 none 0 0] 41,obj m [V3 aY aZ ba,V3 bb bc bd] 41,pack (segItems 114 119 3 bb bc bd lay233),obj R [V6 s.Id,V3 D G H,V3 az aA aB] 89]∧KLe bC aD∧SliceAt tGDoc aD aY aZ ba bO.Docs∧LayOk lay233 bO.Entries) ?_ ?_
     ·refine wc_block ?_
      obtain⟨fh,dp,dq⟩:=ob dm
      have dt:=dl.f1.f6.f6.f6.f6.f6.sb (sk (sk (sk (sk (sk (sk (sd sz)))))))
      refine qF (fun (bP:Nat) (be:GSeg) E' w'=>∃aE aF aG aH aI aJ lay251 aw,E'=[(2,pt l),(4,pt k),(5,pt m),(7,pt R),(9,pt bB),(25,V3 C f i),(26,V6 (q1.length:Int)),(27,V6 ((ab:Nat):Int)),(32,V3 D G H),(33,V6 (s.Fields.length:Int)),(34,V6 ((aU:Nat):Int)),(41,V3 di dj dk),(42,V6 (df.length:Int)),(43,V6 ((bP:Nat):Int))]∧SH w K [] w' aw [obj l [V3 A a b,V3 B c d] 36,obj k [V3 none 0 0,V3 none 0 0] 41,obj m [V3 aE aF aG,V3 aH aI aJ] 41,pack (segItems 114 119 3 aH aI aJ lay251),obj R [V6 s.Id,V3 D G H,V3 az aA aB] 89,obj bB [sv au.Name,sv au.Text] 170]∧KLe bC aw∧SliceAt tGDoc aw aE aF aG be.Docs∧LayOk lay251 be.Entries) dp ⟨aj,ak,am,an,ao,ap,lay180,bC,rfl,dt,kr,(bz.mono bD.le),bA⟩ ?_ ?_
      ·rintro bP be _ du fi hi261 dv ⟨aE,aF,aG,aH,aI,aJ,lay251,aw,rfl,bf,bg,bF,bG⟩
       refine sr (lv (rv_lss rfl rfl) (ns (wc_cond_t rfl (decide_eq_true (by omega)) (wc_skip (qe_seq (wc_seq (wc_block (sr ?_))))))))
       obtain⟨ax,dw,dx⟩:=ob dv
       refine li underlying133 tf136 (bE.mono bg) dw fun dy dz fj dA dB=>?_
       obtain⟨rfl,dC,dD⟩:=dA
       have dE:AtK _ dy dz [sv ax.Text,V6 ax.At]:=dB
       refine lv (rv_loadS tf136 rfl bf dE rfl) (al tf136 bf fun dF fk dG=>?_)
       have dH:SH _ _ _ _ _ [obj dF [sv [],V6 0] 136,_,_,_,_,_,_]:=dG
       refine lw [sv ax.Text,V6 ax.At] tf136 dH fun fm bh=>(nq (wc_region (fl ff170_0 rfl tf9 m6 bh rfl (lv (rv_loadmS (ds:=[sv ax.Text,V6 ax.At]) tf136 rfl m0 bh rfl rfl) (fl ff89_0 rfl tf3 m5 bh rfl ?_)))))
       obtain⟨fn,dI,dJ⟩:=ob dx
       have bQ:=bh.f4.f4
       refine lk co118 (ok_impl_Seg_put F bQ.e2 bF bG da dC dD cK dI) ?_
       rintro fo fp ⟨dK,dL,dM,dN,dO,dP,lay296,dQ,rfl,bR,dR,dS⟩
       have dT:=(bQ.c2 bR).t7
       refine nb (qg (lv (rv_add_to rfl rfl (w64_succ hi261 (SliceAt.max bE))) (mv rfl (wl_nil ?_))))
       cases oi dJ
       exact qd ⟨dK,dL,dM,dN,dO,dP,lay296,dQ,rfl,dT.f6.f6.f3.f3.f6.f6.s,(bg.trans bR.le),dR,dS⟩
      rintro be _ du dU ⟨aE,aF,aG,aH,aI,aJ,lay251,aw,rfl,bf,bg,bF,bG⟩
      subst dU
      refine sr (lv (rv_lss rfl rfl) (ns (wc_cond_f rfl (decide_eq_false (by omega)) (wc_exit (qe_then_exit (qe_then_exit (qe_block_eq ?_)))))))
      cases oi dq
      exact qd ⟨aE,aF,aG,aH,aI,aJ,lay251,aw,rfl,bf.s,bg,bF,bG⟩
     rintro _ fq ⟨aY,aZ,ba,bb,bc,bd,lay233,aD,rfl,dV,dW,dX,dY⟩
     refine qe_block (qg (lv (rv_add_to rfl rfl (w64_succ hi187 (SliceAt.max bv))) (mv rfl (wl_nil ?_))))
     cases oi dn
     exact qd ⟨aY,aZ,ba,bb,bc,bd,lay233,aD,rfl,dV,((ar.trans bD.le).trans dW),dX,dY⟩
    rintro aV _ cS dZ ⟨aj,ak,am,an,ao,ap,lay180,aq,rfl,aW,ar,bz,bA⟩
    subst dZ
    refine sr (lv (rv_lss rfl rfl) (ns (wc_cond_f rfl (decide_eq_false (by omega)) (wc_exit (qe_then_exit (qe_then_exit (qe_block_eq ?_)))))))
    cases oi cR
    exact qd ⟨aj,ak,am,an,ao,ap,lay180,aq,rfl,aW.s,ar,bz,bA⟩
   rintro _ fr ⟨aO,aP,aQ,aR,aS,aT,lay162,aC,rfl,ea,eb,ec,ed⟩
   refine qe_block (qg (lv (rv_add_to rfl rfl (w64_succ hi121 (SliceAt.max (ay.mono ((S.trans U.le).trans V))))) (mv rfl (wl_nil ?_))))
   cases oi cP
   exact qd ⟨aO,aP,aQ,aR,aS,aT,lay162,aC,rfl,ea,(ai.trans eb),ec,ed⟩
  rintro aM _ cC ee ⟨ac,ad,ae,af,ag,ah,lay112,q,rfl,aN,ai,bs,bu⟩
  subst ee
  refine sr (lv (rv_lss rfl rfl) (ns (wc_cond_f rfl (decide_eq_false (by omega)) (wc_exit (qe_then_exit (qe_then_exit (qe_block_eq ?_)))))))
  cases oi cz
  exact qd ⟨ac,ad,ae,af,ag,ah,lay112,q,rfl,aN.s,ai,bs,bu⟩
 rintro _ fs ⟨X,Y,aa,I,J,O,lay94,aL,rfl,bS,ft,ef,eg⟩
 refine qr (fl ff41_1 rfl tf39 m1 bS rfl ?_)
 obtain⟨fu,cs315,eh,hrow317,hm318,ei⟩:=seg_see bS.f2 eg
 obtain⟨fv,ej,ek⟩:=ob cx
 refine wl_call wn rfl (rt_call (vs:=[V3 I J O,.func (.func 120) #[] #[]]) co119 rfl) (sort_rowI (T:=tGEntry) sortLay119 sortNone119 rfl (fun w=>Go.Fk.run_isAgg tf114 w) (fun w=>Go.Fk.run_sizeOf tf114 w) (fun a b=>M.impl_SegOf_1 F a b) 120 (Go.Proofs.enters_of func120 (by kernel_rfl) rfl) ei hrow317 hm318 (fun K1 W v x u y r hW h1 h2 hm=>by
  obtain⟨fx,fy,fz,rfl,en,eo,ep⟩:=h1
  obtain⟨fA,fB,fC,rfl,eq,es,et⟩:=h2
  exact(ok_impl_SegOf_1 (dr:=⟨True⟩) F (SH.start (dr:=⟨True⟩) hW) en eo ep eq es et hm).mono fun e w' ⟨K',he,hS',_⟩=>⟨K',he,hS'⟩) ej) ?_
 rintro fD fE ⟨cs335,rfl,bT,hrow337,hm338⟩
 refine⟨_,rfl,?_⟩
 refine nr (lv (rv_loadmS (ds:=[V3 X Y aa,V3 I J O]) tf41 rfl m2 bT rfl rfl) (lw [V3 X Y aa,V3 I J O] tf41 bT.f1 fun fF eu=>(nq (wc_ret ?_))))
 obtain⟨ev,ew,ex,bU⟩:=SH.freezeI eu.f1 hrow337 hm338
 cases oi ek
 exact ez results74 tf41 bU m1 ⟨X,Y,aa,I,J,O,ev,rfl,bU.s,(ef.mono (eh.trans ew)),ex⟩

theorem ok_impl_SegOk {q0:GConf}{q1:GSeg}{r:Bool}(hS:SH w K [] w K [])(T:SliceAt tStr K A a b q0.Stops)(U:SliceAt tGSyn K B c d q0.Syns)(V:SliceAt tGDoc K C f i q1.Docs)(ab:SliceAt tGEntry K D k l q1.Entries)(hm:M.impl_SegOk F q0 q1=some r):
  Calls prog 35 #[.agg #[V3 A a b,V3 B c d],.agg #[V3 C f i,V3 D k l]] w (R_b w K r):=by
 rw [M.impl_SegOk] at hm
 refine ci func35 u ntmps35 (sr (bx u hS fun s az ac=>?_))
 have ad:SH _ _ _ _ _ [obj s [V3 A a b,V3 B c d] 36]:=ac
 refine bx u ad fun x aA ae=>?_
 have O:SH _ _ _ _ _ [obj x [V3 C f i,V3 D k l] 41,_]:=ae
 refine lv (r_f u) (ns (wc_seq ?_))
 obtain⟨af,ag,ah⟩:=ob hm
 refine wc_cutg (IV w K [] K [(2,pt s),(3,pt x),(13,.bool af)] [obj s [V3 A a b,V3 B c d] 36,obj x [V3 C f i,V3 D k l] 41]) ?_ ?_
 ·refine wc_region (lv (rv_loadmS (ds:=[V3 A a b,V3 B c d]) tf36 u m1 O u u) ?_)
  obtain⟨aB,ai,aj⟩:=ob ag
  refine lk co71 (ok_impl_ConfOk F O.enter0 T U ai) ?_
  rintro aC aD ⟨ak,rfl,y⟩
  have G:=(O.c0 y).t2
  refine lv (rv_not u) (mv u (bt aj (fun m R=>?_) (fun m R=>?_)))
  ·refine lu m (lu m (lu m (lu m (lv (p_t u m u) (wl_nil ?_)))))
   cases oi R
   exact qd ⟨ak,u,G.f1,y.le⟩
  refine lg m (rv_fieldAddr ff41_0 u) (lg m (rv_loadm1 tf38 u m0 G u) ?_)
  obtain⟨aE,al,am⟩:=ob R
  refine wl_call (wg u u m) u (rt_call (vs:=[V3 C f i]) co72 u) (ok_impl_DocsOk F G.enter0 (V.mono y.le) al) ?_
  rintro aF aG ⟨an,rfl,W⟩
  refine⟨_,u,?_⟩
  have ao:=(G.c0 W).t2
  refine lg m (rv_not u) (lv (rv_pick_f u m u) (wl_nil ?_))
  cases oi am
  exact qd ⟨an,u,ao.f1,(y.le.trans W.le)⟩
 rintro _ aH ⟨X,rfl,Y,H⟩
 refine qe_seq (wcc ah u (fun ap S=>?_) (fun ap S=>?_))
 ·refine sr (lv (r_f u) (nq (rr ?_)))
  cases oi S
  exact ey results35 ⟨X,u,Y.s⟩
 refine wc_skip (qs ?_)
 have o:=Y.drew
 refine j_0 (fun w'=>Holds X w'∧HasObj s [V3 A a b,V3 B c d] w'∧HasObj x [V3 C f i,V3 D k l] w') 9 [] mixed ⟨o.hasK kr,o.hasObj m0,o.hasObj m1⟩ (jh 0 u (fun _ h=>rh_loadmS (ds:=[V3 A a b,V3 B c d]) tf36 u u u h.2.1) (jv 1 u (rv_fieldAddr ff41_0 u) (jh 2 u (fun _ h=>rh_loadm1 tf38 u u h.2.2) (jv 5 u (rv_fieldAddr ff41_1 u) (jh 6 u (fun _ h=>rh_loadm1 tf39 u u h.2.2) (j1 3 u ?_))))))
 obtain⟨aI,aq,ar⟩:=ob S
 refine lk co74 (ok_impl_SegOf F o.enter0 (T.mono H) (U.mono H) (V.mono H) aq) ?_
 rintro aJ aK ⟨aL,aM,aN,aO,aP,aQ,aR,rfl,I,aS,au⟩
 have q:=(o.c0 I).t3
 refine j_o ⟨q.hasK I.le,q.hasObj m1,q.hasObj m2⟩ (jv 4 u (rv_field fg41_1 tf39 u (.inl ⟨u,u⟩)) (j1 7 u ?_))
 obtain⟨aT,aw,ax⟩:=ob ar
 refine lk co73 (ok_slices_EqualFunc_Entry__impl_sameEntry F q.enter0 au (ab.mono (H.trans I.le)) aw) ?_
 rintro aU aV ⟨ay,rfl,aa⟩
 have J:=(q.c0 aa).t3
 refine j_o ⟨J.hasK (I.le.trans aa.le),J.hasObj m1,J.hasObj m2⟩ (jv 8 u (rv_assign u) (jd (qe_seq (wc_ret ?_))))
 cases oi ax
 exact ey results35 ⟨ay,u,J.s⟩

theorem ok_impl_TopPush {q0:List GHit}{q1:GHit}{q2:Int}{r:(List GHit)}(hS:SH w K [] w K [])(m:SliceAt tGHit K A a b q0)(x:rng64 q1.Doc)(ai:rng64 q1.Points)(W:rng64 q2)(hm:M.impl_TopPush F q0 q1 q2=some r):
  Calls prog 56 #[V3 A a b,.agg #[V6 q1.Doc,V6 q1.Points],V6 q2] w fun e w'=>∃a_1 n_2 c_3 K',e= .returned (V3 a_1 n_2 c_3)∧SH w K [] w' K' [tail (V3 a_1 n_2 c_3) 92 2]∧SliceAt tGHit K' a_1 n_2 c_3 r:=by
 rw [M.impl_TopPush] at hm
 refine ci func56 u ntmps56 (sr (bx u hS fun k w9 aj=>?_))
 have X:SH _ _ _ _ _ [obj k [V6 q1.Doc,V6 q1.Points] 92]:=aj
 refine lv (r_n u) (ns (wc_seq ?_))
 obtain⟨ak,al,am⟩:=ob hm
 refine wc_cutg (IV w K [] K [(0,V3 A a b),(2,V6 q2),(4,pt k),(21,.bool ak)] [obj k [V6 q1.Doc,V6 q1.Points] 92]) ?_ ?_
 ·refine wc_region (mv u ?_)
  obtain⟨bg,an,ao⟩:=ob al
  refine lk co94 (ok_impl_HitsOk F X.enter0 m an) ?_
  rintro bh bi ⟨ap,rfl,l⟩
  have y:=(X.c0 l).t1
  refine lv (rv_not u) (mv u (bt ao (fun f B=>?_) (fun f B=>?_)))
  ·refine lu f (lu f (lu f (lv (p_t u f u) (mv u (lu u (lu u (lu u (lu u (lv (p_t u u u) ?_)))))))))
   refine wl_nil ?_
   cases oi B
   exact qd ⟨ap,u,y,l.le⟩
  refine lg f (rv_move u) ?_
  obtain⟨bj,aq,ar⟩:=ob B
  refine wl_call (wg u u f) u (rt_call (vs:=[V6 q2,V6 1,V6 16]) co51 u) (ok_impl_within F y.enter0 W (by decide :rng64 1) (by decide :rng64 16) aq) ?_
  rintro bk bl ⟨Y,rfl,o⟩
  refine⟨_,u,?_⟩
  have aa:=(y.c0 o).t1
  refine lg f (rv_not u) (lv (rv_pick_f u f u) (mv u (bt ar (fun c C=>?_) (fun c C=>?_))))
  ·refine lu c (lu c (lu c (lu c (lv (p_t u c u) (wl_nil ?_)))))
   cases oi C
   exact qd ⟨Y,u,aa,(l.le.trans o.le)⟩
  refine lg c (rv_move u) (lg c (rv_len underlying51 u (m.mono (l.le.trans o.le))) (lg c (rv_move u) (lg c (rv_gtr u u) (lv (rv_pick_f u c u) (wl_nil ?_)))))
  cases oi C
  exact qd ⟨Y,u,aa,(l.le.trans o.le)⟩
 rintro _ bm ⟨bn,rfl,ab,ac⟩
 refine qe_seq (wcc am u (fun au D=>?_) (fun au D=>?_))
 ·refine sr (b0 tGHit underlying51 tf92 ab fun aw bo ax bp ay az=>(av u (nq (rr ?_))))
  cases oi D
  exact ey results56 ⟨aw,0,0,ax,u,az.s,ay⟩
 refine wc_skip (qr (b0 tGHit underlying51 tf92 ab fun bq br bs ad aA aB=>(mv u ?_)))
 obtain⟨bu,aC,aD⟩:=ob D
 refine lp underlying51 tf92 aA (m.mono (ac.trans ad)) aC aB fun G H I bv aE aF ae J=>(av u (ns (wc_seq ?_)))
 obtain⟨aG,aH,aI⟩:=ob aD
 refine wc_cutg (IV w K [] aE [(2,V6 q2),(4,pt k),(7,V3 G H I),(40,.bool aG)] [obj k [V6 q1.Doc,V6 q1.Points] 92,tail (V3 G H I) 92 2]) ?_ ?_
 ·refine wc_region (mv u (fl ff92_0 u tf3 m1 J u ?_))
  obtain⟨bz,aJ,aK⟩:=ob aH
  refine lk co95 (ok_impl_hasDoc F J.enter0 (m.mono ((ac.trans ad).trans aF)) x aJ) ?_
  rintro bA bB ⟨aL,rfl,q⟩
  have s:=(J.c0 q).t2
  refine mv u (bt aK (fun d O=>?_) (fun d O=>?_))
  ·refine lu d (lu d (lu d (lu d (lv (p_t u d u) (mv u (lu u (lu u (lu u (lv (p_t u u u) ?_)))))))))
   refine wl_nil ?_
   cases oi O
   exact qd ⟨aL,u,s.f1,q.le⟩
  refine lg d (rv_fieldAddr ff92_0 u) (lg d (rv_loadm1 tf3 u m1 s u) ?_)
  obtain⟨bC,aM,aN⟩:=ob O
  refine wl_call (wg u u d) u (rt_call (vs:=[V6 q1.Doc,V6 1,V6 9999]) co51 u) (ok_impl_within F s.enter0 x (by decide :rng64 1) (by decide :rng64 9999) aM) ?_
  rintro bD bE ⟨af,rfl,R⟩
  refine⟨_,u,?_⟩
  have S:=(s.c0 R).t2
  refine lg d (rv_not u) (lv (rv_pick_f u d u) (mv u (bt aN (fun i T=>?_) (fun i T=>?_))))
  ·refine lu i (lu i (lu i (lv (p_t u i u) (wl_nil ?_))))
   cases oi T
   exact qd ⟨af,u,S.f1,(q.le.trans R.le)⟩
  refine lg i (rv_fieldAddr ff92_1 u) (lg i (rv_loadm1 tf3 u m1 S u) (lg i (rv_lss u u) (lv (rv_pick_f u i u) (wl_nil ?_))))
  cases oi T
  exact qd ⟨af,u,S.f1,(q.le.trans R.le)⟩
 rintro _ bF ⟨aO,rfl,U,ag⟩
 refine qe_seq (wcc aI u (fun aP V=>?_) (fun aP V=>?_))
 ·refine sr (mv u (av u (nq (rr ?_))))
  cases oi V
  exact ey results56 ⟨G,H,I,aO,u,U.s,(ae.mono ag)⟩
 refine wc_skip (qr (mv u (lv (rv_loadmS (ds:=[V6 q1.Doc,V6 q1.Points]) tf92 u m0 U u u) (lb tGHit (.agg #[V6 q1.Doc,V6 q1.Points]) [V6 q1.Doc,V6 q1.Points] q1 underlying51 tf92 ⟨u,x,ai⟩ U fun bG bH bI aQ aR aS=>?_))))
 obtain⟨bJ,aT,aU⟩:=ob V
 refine lp underlying51 tf92 (ae.mono (ag.trans aQ)) aR aT aS.f2 fun bK bL bM bN bO bP aV ah=>(mv u ?_)
 obtain⟨bQ,aW,aX⟩:=ob aU
 refine lk co96 (ok_impl_firstHits F ah.enter0 aV W aW) ?_
 rintro bR bS ⟨aY,aZ,ba,bb,rfl,bc,bd⟩
 have be:=(ah.c0 bc).t4
 refine av u (nq (wc_ret ?_))
 cases oi aX
 exact ey results56 ⟨aY,aZ,ba,bb,u,be.s,bd⟩
end Go.Proofs.YtfiahfncijjliaaGreatDoor
