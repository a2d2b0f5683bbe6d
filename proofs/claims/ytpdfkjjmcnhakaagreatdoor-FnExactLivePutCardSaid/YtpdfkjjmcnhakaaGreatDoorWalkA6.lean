/-
 Walks of the functions. Printed by gen.py.
-/
import Derived.Test.YtpdfkjjmcnhakaaGreatDoorWalkA4
import Derived.Test.YtpdfkjjmcnhakaaGreatDoorWalkA5
set_option linter.unusedVariables false
set_option linter.unusedSectionVars false
set_option maxRecDepth 100000
namespace Go.Proofs.YtpdfkjjmcnhakaaGreatDoor
set_option maxHeartbeats 4000000
open Go Go.Fk Go.RowKit Tryz
variable (F:Nat){w:World}{K:KMap}{Z:List Nat}{g1 g2 g3:Nat}{A B C D G H I J O R S T:Option Addr}{a b c d f i k l m n o p q s v x y aa ab ac ad ae af ag:Nat}
variable [dr:Dr]

theorem ok_cmp_Compare_string {q0:Str}{q1:Str}{r:Int}(hS:SH w K [] w K [])(m:q0.length≤maxLen)(o:q1.length≤maxLen)(hm:M.cmp_Compare_string F q0 q1=some r):
  Calls prog 91 #[sv q0,sv q1] w (R_i w K r):=by
 rw [M.cmp_Compare_string] at hm
 refine ci func91 u ntmps91 (sr (lv (r_0 u) (nr (mv u ?_))))
 obtain⟨J,q,s⟩:=ob hm
 refine lk co138 (ok_cmp_isNaN_string F hS.enter0 m q) ?_
 rintro O R ⟨S,rfl,x⟩
 have l:=(hS.c0 x).t0
 refine av u (nr (mv u ?_))
 obtain⟨T,y,A⟩:=ob s
 refine lk co138 (ok_cmp_isNaN_string F l.enter0 o y) ?_
 rintro U V ⟨a,rfl,B⟩
 have b:=(l.c0 B).t0
 refine av u (nsr (mv u (nq (wcc A u (fun C c=>?_) (fun C c=>?_)))))
 ·refine wc_seq (sr (mv u (nq (wcc c u (fun D d=>?_) (fun D d=>?_)))))
  ·refine sr (lv (r_0 u) (nq (rr (qe_then_ret ?_))))
   cases oi d
   exact ey results91 ⟨a,u,b,d_0⟩
  refine wc_skip (qr (lv (rv_assign (v:=V6 (-1)) u) (nq (rr ?_))))
  cases oi d
  exact ey results91 ⟨a,u,b,(by decide :rng64 (-1))⟩
 refine wc_skip (qs (sr (mv u (nq (wcc c u (fun G f=>?_) (fun G f=>?_))))))
 ·refine sr (lv (rv_assign (v:=V6 1) u) (nq (rr ?_)))
  cases oi f
  exact ey results91 ⟨a,u,b,(by decide :rng64 1)⟩
 refine wc_skip (qs (sr (mv u (mv u (lv (rv_slss u u) (nq (wcc f u (fun H i=>?_) (fun H i=>?_))))))))
 ·refine sr (lv (rv_assign (v:=V6 (-1)) u) (nq (rr ?_)))
  cases oi i
  exact ey results91 ⟨a,u,b,(by decide :rng64 (-1))⟩
 refine wc_skip (qs (sr (mv u (mv u (lv (rv_sgtr u u) (nq (wcc i u (fun I k=>?_) (fun I k=>?_))))))))
 ·refine sr (lv (rv_assign (v:=V6 1) u) (nq (rr ?_)))
  cases oi k
  exact ey results91 ⟨a,u,b,(by decide :rng64 1)⟩
 refine wc_skip (qr (lv (r_0 u) (nq (wc_ret ?_))))
 cases oi k
 exact ey results91 ⟨a,u,b,d_0⟩

theorem ok_impl_SegOf_1 {q0:GEntry}{q1:GEntry}{r:Int}(hS:SH w K [] w K [])(H:q0.Field.length≤maxLen)(I:q0.Term.length≤maxLen)(ah:SliceAt tGPost K A a b q0.Posts)(J:q1.Field.length≤maxLen)(O:q1.Term.length≤maxLen)(ai:SliceAt tGPost K B c d q1.Posts)(hm:M.impl_SegOf_1 F q0 q1=some r):
  Calls prog 89 #[.agg #[sv q0.Field,sv q0.Term,V3 A a b],.agg #[sv q1.Field,sv q1.Term,V3 B c d]] w (R_i w K r):=by
 rw [M.impl_SegOf_1] at hm
 refine ci func89 rfl ntmps89 (sr (bx rfl hS fun y aj R=>?_))
 have S:SH _ _ _ _ _ [obj y [sv q0.Field,sv q0.Term,V3 A a b] 97]:=R
 refine bx rfl S fun C ak T=>?_
 have U:SH _ _ _ _ _ [obj C [sv q1.Field,sv q1.Term,V3 B c d] 97,_]:=T
 refine lv (r_0 rfl) (ns ?_)
 have f:=U.drew
 refine j_0 (fun w'=>Holds K w'∧HasObj y [sv q0.Field,sv q0.Term,V3 A a b] w'∧HasObj C [sv q1.Field,sv q1.Term,V3 B c d] w') 13 [] mixed ⟨f.hasK kr,f.hasObj m1,f.hasObj m0⟩ (jv 0 rfl (rv_fieldAddr ff97_0 rfl) (jh 1 rfl (fun _ h=>rh_loadm1 tf9 rfl rfl h.2.1) (jv 2 rfl (rv_fieldAddr ff97_0 rfl) (jh 3 rfl (fun _ h=>rh_loadm1 tf9 rfl rfl h.2.2) (jv 5 rfl (rv_fieldAddr ff97_1 rfl) (jh 6 rfl (fun _ h=>rh_loadm1 tf9 rfl rfl h.2.1) (jv 7 rfl (rv_fieldAddr ff97_1 rfl) (jh 8 rfl (fun _ h=>rh_loadm1 tf9 rfl rfl h.2.2) (j1 4 rfl ?_)))))))))
 obtain⟨i,V,W⟩:=ob hm
 refine lk co91 (ok_cmp_Compare_string F f.enter0 H J V) ?_
 rintro al am ⟨an,rfl,k,X⟩
 have l:=(f.c0 k).t2
 refine j_o ⟨l.hasK k.le,l.hasObj m1,l.hasObj m0⟩ (j1 9 rfl ?_)
 obtain⟨m,Y,aa⟩:=ob W
 refine lk co91 (ok_cmp_Compare_string F l.enter0 I O Y) ?_
 rintro ao ap ⟨aq,rfl,q,ab⟩
 have s:=(l.c0 q).t2
 refine j_o ⟨s.hasK (k.le.trans q.le),s.hasObj m1,s.hasObj m0⟩ (j1 10 rfl (wl_buildSlice (t:=tInt) (n:=2) (pv:=[(0,V6 i),(1,V6 m)]) (cs:=[V6 i,V6 m]) (xs:=[i,m]) wn rfl underlying30 tf3 rfl rfl rfl (by kernel_rfl) rfl rfl (lit_cons (u:=V6 i) (z:=i) ⟨rfl,X⟩ (lit_cons (u:=V6 m) (z:=m) ⟨rfl,ab⟩ lit_nil)) s fun ar au aw D ac o=>(j_o ⟨o.hasK ((k.le.trans q.le).trans D),o.hasObj m2,o.hasObj m1⟩ (j1 11 rfl ?_))))
 obtain⟨ax,ad,ae⟩:=ob aa
 refine lk co90 (ok_cmp_Or_int F o.enter0 ac ad) ?_
 rintro ay az ⟨af,rfl,G,ag⟩
 have x:=(o.c0 G).t3
 refine j_o ⟨x.hasK (((k.le.trans q.le).trans D).trans G.le),x.hasObj m2,x.hasObj m1⟩ (jv 12 rfl (rv_assign rfl) (jd (qe_seq (wc_ret ?_))))
 cases oi ae
 exact ey results89 ⟨af,rfl,x.s,ag⟩

theorem ok_impl_SegOf {q0:GConf}{q1:List GDoc}{r:GSeg}(hS:SH w K [] w K [])(bH:SliceAt tStr K A a b q0.Stops)(bI:SliceAt tGSyn K B c d q0.Syns)(ay:SliceAt tGDoc K C f i q1)(hm:M.impl_SegOf F q0 q1=some r):
  Calls prog 46 #[.agg #[V3 A a b,V3 B c d],V3 C f i] w fun e w'=>∃a_1 n_2 c_3 a_5 n_6 c_7 K',e= .returned (.agg #[V3 a_1 n_2 c_3,V3 a_5 n_6 c_7])∧SH w K [] w' K' [tail (V3 a_5 n_6 c_7) 97 3]∧SliceAt tGDoc K' a_1 n_2 c_3 r.Docs∧SliceAt tGEntry K' a_5 n_6 c_7 r.Entries:=by
 rw [M.impl_SegOf] at hm
 refine ci func46 rfl ntmps46 (sr (bx rfl hS fun l eA bV=>?_))
 have bW:SH _ _ _ _ _ [obj l [V3 A a b,V3 B c d] 38]:=bV
 refine al tf43 bW fun k eB bX=>?_
 have bi:SH _ _ _ _ _ [obj k [V3 none 0 0,V3 none 0 0] 43,_]:=bX
 refine ns (wc_seq ?_)
 obtain⟨bY,bZ,ca⟩:=ob hm
 refine wc_cutg (IV w K [] K [(1,V3 C f i),(2,pt l),(4,pt k),(19,.bool bY)] [obj l [V3 A a b,V3 B c d] 38,obj k [V3 none 0 0,V3 none 0 0] 43]) ?_ ?_
 ·refine wc_region (lv (rv_loadmS (ds:=[V3 A a b,V3 B c d]) tf38 rfl m1 bi rfl rfl) ?_)
  obtain⟨eC,cb,cc⟩:=ob bZ
  refine lk co43 (ok_impl_ConfOk F bi.enter0 bH bI cb) ?_
  rintro eD eE ⟨cd,rfl,aK⟩
  have bj:=(bi.c0 aK).t2
  refine lv (rv_not rfl) (mv rfl (bt cc (fun o bk=>?_) (fun o bk=>?_)))
  ·refine lu o (lu o (lu o (lv (p_t rfl o rfl) (wl_nil ?_))))
   cases oi bk
   exact qd ⟨cd,rfl,bj.f1,aK.le⟩
  refine lg o (rv_move rfl) ?_
  obtain⟨eF,ce,cf⟩:=ob bk
  refine wl_call (wg rfl rfl o) rfl (rt_call (vs:=[V3 C f i]) co44 rfl) (ok_impl_DocsOk F bj.enter0 (ay.mono aK.le) ce) ?_
  rintro eG eH ⟨cg,rfl,bJ⟩
  refine⟨_,rfl,?_⟩
  have ch:=(bj.c0 bJ).t2
  refine lg o (rv_not rfl) (lv (rv_pick_f rfl o rfl) (wl_nil ?_))
  cases oi cf
  exact qd ⟨cg,rfl,ch.f1,(aK.le.trans bJ.le)⟩
 rintro _ eI ⟨cj,rfl,bl,S⟩
 refine qe_seq (wcc ca rfl (fun ck bm=>?_) (fun ck bm=>?_))
 ·refine sr (lv (rv_build (cs:=#[V3 none 0 0,V3 none 0 0]) sp43 tf43 rfl (by kernel_rfl)) (lw [V3 none 0 0,V3 none 0 0] tf43 bl.f1 fun eJ bK=>(nq (rr ?_))))
  cases oi bm
  have cl:=bK.nil 97 3
  exact ez results46 tf43 bK m0 ⟨none,0,0,none,0,0,cj,rfl,cl.s,(SliceAt.nil _ _),(SliceAt.nil _ _)⟩
 refine wc_skip (qr (mv rfl ?_))
 obtain⟨eK,cm,cn⟩:=ob bm
 refine lk co86 (ok_impl_cloneDocs F bl.enter0 (ay.mono S) cm) ?_
 rintro eL eM ⟨bn,bo,bp,eN,rfl,U,cp⟩
 have cq:=(bl.c0 U).t3
 refine b0 tGEntry underlying41 tf97 cq fun bq eO br V eP cr=>(lv (rv_build (cs:=#[V3 bn bo bp,V3 bq 0 0]) sp43 tf43 rfl (by kernel_rfl)) (al tf43 cr fun m eQ ct=>?_))
 have cu:SH _ _ _ _ _ [obj m [V3 none 0 0,V3 none 0 0] 43,_,_,_,_]:=ct
 refine lw [V3 bn bo bp,V3 bq 0 0] tf43 cu fun eR cv=>(nsr (mv rfl (lv (rv_len underlying40 rfl (ay.mono ((S.trans U.le).trans V))) (lv (r_m rfl) (nq ?_)))))
 obtain⟨bL,cw,cx⟩:=ob cn
 refine wc_cutg (fun E' w'=>∃X Y aa I J O lay94 aL,E'=[(4,pt k),(5,pt m)]∧SH w K [] w' aL [obj k [V3 none 0 0,V3 none 0 0] 43,obj m [V3 X Y aa,V3 I J O] 43,pack (segItems 97 153 3 I J O lay94)]∧KLe br aL∧SliceAt tGDoc aL X Y aa bL.Docs∧LayOk lay94 bL.Entries) ?_ ?_
 ·refine wc_block ?_
  obtain⟨eS,cy,cz⟩:=ob cw
  have cA:=seg_empty (TP:=153) (TI:=3) cv.f1
  have cB:=cA.f1.f4.f4.sb (sk (sk (sk (sk (sd sz)))))
  refine qF (fun (ab:Nat) (aM:GSeg) E' w'=>∃ac ad ae af ag ah lay112 q,E'=[(2,pt l),(4,pt k),(5,pt m),(25,V3 C f i),(26,V6 (q1.length:Int)),(27,V6 ((ab:Nat):Int))]∧SH w K [] w' q [obj l [V3 A a b,V3 B c d] 38,obj k [V3 none 0 0,V3 none 0 0] 43,obj m [V3 ac ad ae,V3 af ag ah] 43,pack (segItems 97 153 3 af ag ah lay112)]∧KLe br q∧SliceAt tGDoc q ac ad ae aM.Docs∧LayOk lay112 aM.Entries) cy ⟨bn,bo,bp,bq,0,0,[],br,rfl,cB,kr,(cp.mono V),⟨(fun _ h=>by cases h),rfl⟩⟩ ?_ ?_
  ·rintro ab aM _ cC eT hi121 cD ⟨ac,ad,ae,af,ag,ah,lay112,q,rfl,aN,ai,bs,bu⟩
   refine sr (lv (rv_lss rfl rfl) (ns (wc_cond_t rfl (decide_eq_true (by omega)) (wc_skip (qe_seq (wc_seq (wc_block (sr ?_))))))))
   obtain⟨s,cE,cF⟩:=ob cD
   refine li underlying40 tf64 (SliceAt.mono (((S.trans U.le).trans V).trans ai) ay) cE fun cG cH eU cI cJ=>?_
   obtain⟨D,G,H,az,aA,aB,rfl,cK,bv,eV⟩:=cI
   have cL:AtK _ cG cH [V6 s.Id,V3 D G H,V3 az aA aB]:=cJ
   refine lv (rv_loadS tf64 rfl aN cL rfl) (al tf64 aN fun R eW cM=>?_)
   have cN:SH _ _ _ _ _ [obj R [V6 0,V3 none 0 0,V3 none 0 0] 64,_,_,_,_]:=cM
   refine lw [V6 s.Id,V3 D G H,V3 az aA aB] tf64 cN fun eX bM=>(nr (fl ff64_1 rfl tf61 m0 bM rfl (lv (rv_len underlying61 rfl bv) (lv (r_m rfl) (nq ?_)))))
   obtain⟨bN,cO,cP⟩:=ob cF
   refine wc_cutg (fun E' w'=>∃aO aP aQ aR aS aT lay162 aC,E'=[(2,pt l),(4,pt k),(5,pt m),(25,V3 C f i),(26,V6 (q1.length:Int)),(27,V6 ((ab:Nat):Int))]∧SH w K [] w' aC [obj l [V3 A a b,V3 B c d] 38,obj k [V3 none 0 0,V3 none 0 0] 43,obj m [V3 aO aP aQ,V3 aR aS aT] 43,pack (segItems 97 153 3 aR aS aT lay162)]∧KLe q aC∧SliceAt tGDoc aC aO aP aQ bN.Docs∧LayOk lay162 bN.Entries) ?_ ?_
   ·refine wc_block ?_
    obtain⟨eY,cQ,cR⟩:=ob cO
    refine qF (fun (aU:Nat) (aV:GSeg) E' w'=>∃aj ak am an ao ap lay180 aq,E'=[(2,pt l),(4,pt k),(5,pt m),(7,pt R),(25,V3 C f i),(26,V6 (q1.length:Int)),(27,V6 ((ab:Nat):Int)),(32,V3 D G H),(33,V6 (s.Fields.length:Int)),(34,V6 ((aU:Nat):Int))]∧SH w K [] w' aq [obj l [V3 A a b,V3 B c d] 38,obj k [V3 none 0 0,V3 none 0 0] 43,obj m [V3 aj ak am,V3 an ao ap] 43,pack (segItems 97 153 3 an ao ap lay180),obj R [V6 s.Id,V3 D G H,V3 az aA aB] 64]∧KLe q aq∧SliceAt tGDoc aq aj ak am aV.Docs∧LayOk lay180 aV.Entries) cQ ⟨ac,ad,ae,af,ag,ah,lay112,q,rfl,bM.f4.f4.f4.f4,kr,bs,bu⟩ ?_ ?_
    ·rintro aU aV _ cS eZ hi187 cT ⟨aj,ak,am,an,ao,ap,lay180,aq,rfl,aW,ar,bz,bA⟩
     refine sr (lv (rv_lss rfl rfl) (ns (wc_cond_t rfl (decide_eq_true (by omega)) (wc_skip (qe_seq (wc_seq (wc_block (sr ?_))))))))
     obtain⟨au,cU,cV⟩:=ob cT
     refine li underlying61 tf118 (bv.mono ar) cU fun cW cX fb cY cZ=>?_
     obtain⟨rfl,da,db⟩:=cY
     have dc:AtK _ cW cX [sv au.Name,sv au.Text]:=cZ
     refine lv (rv_loadS tf118 rfl aW dc rfl) (al tf118 aW fun bB fc dd=>?_)
     have de:SH _ _ _ _ _ [obj bB [sv [],sv []] 118,_,_,_,_,_]:=dd
     refine lw [sv au.Name,sv au.Text] tf118 de fun fd aX=>(nr (lv (rv_loadmS (ds:=[V3 A a b,V3 B c d]) tf38 rfl m1 aX rfl rfl) (fl ff118_1 rfl tf9 m0 aX rfl ?_)))
     obtain⟨df,dg,dh⟩:=ob cV
     refine lk co49 (ok_impl_TermsOf F aX.enter0 (SliceAt.mono ((((S.trans U.le).trans V).trans ai).trans ar) bH) (SliceAt.mono ((((S.trans U.le).trans V).trans ai).trans ar) bI) db dg) ?_
     rintro fe fg ⟨di,dj,dk,bC,rfl,bD,bE⟩
     have dl:=(aX.c0 bD).t7
     refine lv (rv_len underlying101 rfl bE) (lv (r_m rfl) (nq ?_))
     obtain⟨bO,dm,dn⟩:=ob dh
     refine wc_cutg (fun E' w'=>∃aY aZ ba bb bc bd lay233 aD,E'=[(2,pt l),(4,pt k),(5,pt m),(7,pt R),(25,V3 C f i),(26,V6 (q1.length:Int)),(27,V6 ((ab:Nat):Int)),(32,V3 D G H),(33,V6 (s.Fields.length:Int)),(34,V6 ((aU:Nat):Int))]∧SH w K [] w' aD [obj l [V3 A a b,V3 B c d] 38,obj k [V3 none 0 0,V3 none 0 0] 43,obj m [V3 aY aZ ba,V3 bb bc bd] 43,pack (segItems 97 153 3 bb bc bd lay233),obj R [V6 s.Id,V3 D G H,V3 az aA aB] 64]∧KLe bC aD∧SliceAt tGDoc aD aY aZ ba bO.Docs∧LayOk lay233 bO.Entries) ?_ ?_
     ·refine wc_block ?_
      obtain⟨fh,dp,dq⟩:=ob dm
      have dt:=dl.f1.f6.f6.f6.f6.f6.sb (sk (sk (sk (sk (sk (sk (sd sz)))))))
      refine qF (fun (bP:Nat) (be:GSeg) E' w'=>∃aE aF aG aH aI aJ lay251 aw,E'=[(2,pt l),(4,pt k),(5,pt m),(7,pt R),(9,pt bB),(25,V3 C f i),(26,V6 (q1.length:Int)),(27,V6 ((ab:Nat):Int)),(32,V3 D G H),(33,V6 (s.Fields.length:Int)),(34,V6 ((aU:Nat):Int)),(41,V3 di dj dk),(42,V6 (df.length:Int)),(43,V6 ((bP:Nat):Int))]∧SH w K [] w' aw [obj l [V3 A a b,V3 B c d] 38,obj k [V3 none 0 0,V3 none 0 0] 43,obj m [V3 aE aF aG,V3 aH aI aJ] 43,pack (segItems 97 153 3 aH aI aJ lay251),obj R [V6 s.Id,V3 D G H,V3 az aA aB] 64,obj bB [sv au.Name,sv au.Text] 118]∧KLe bC aw∧SliceAt tGDoc aw aE aF aG be.Docs∧LayOk lay251 be.Entries) dp ⟨aj,ak,am,an,ao,ap,lay180,bC,rfl,dt,kr,(bz.mono bD.le),bA⟩ ?_ ?_
      ·rintro bP be _ du fi hi261 dv ⟨aE,aF,aG,aH,aI,aJ,lay251,aw,rfl,bf,bg,bF,bG⟩
       refine sr (lv (rv_lss rfl rfl) (ns (wc_cond_t rfl (decide_eq_true (by omega)) (wc_skip (qe_seq (wc_seq (wc_block (sr ?_))))))))
       obtain⟨ax,dw,dx⟩:=ob dv
       refine li underlying101 tf104 (bE.mono bg) dw fun dy dz fj dA dB=>?_
       obtain⟨rfl,dC,dD⟩:=dA
       have dE:AtK _ dy dz [sv ax.Text,V6 ax.At]:=dB
       refine lv (rv_loadS tf104 rfl bf dE rfl) (al tf104 bf fun dF fk dG=>?_)
       have dH:SH _ _ _ _ _ [obj dF [sv [],V6 0] 104,_,_,_,_,_,_]:=dG
       refine lw [sv ax.Text,V6 ax.At] tf104 dH fun fm bh=>(nq (wc_region (fl ff118_0 rfl tf9 m6 bh rfl (lv (rv_loadmS (ds:=[sv ax.Text,V6 ax.At]) tf104 rfl m0 bh rfl rfl) (fl ff64_0 rfl tf3 m5 bh rfl ?_)))))
       obtain⟨fn,dI,dJ⟩:=ob dx
       have bQ:=bh.f4.f4
       refine lk co87 (ok_impl_Seg_put F bQ.e2 bF bG da dC dD cK dI) ?_
       rintro fo fp ⟨dK,dL,dM,dN,dO,dP,lay296,dQ,rfl,bR,dR,dS⟩
       have dT:=(bQ.c2 bR).t7
       refine nb (qg (lv (rv_add_to rfl rfl (w64_succ hi261 (SliceAt.max bE))) (mv rfl (wl_nil ?_))))
       cases oi dJ
       exact qd ⟨dK,dL,dM,dN,dO,dP,lay296,dQ,rfl,dT.f6.f6.f3.f3.f6.f6.s,(bg.trans bR.le),dR,dS⟩
      rintro be _ du dU ⟨aE,aF,aG,aH,aI,aJ,lay251,aw,rfl,bf,bg,bF,bG⟩
      subst dU
      refine sr (lv (rv_lss rfl rfl) (ns (wc_cond_f rfl (decide_eq_false (by omega)) (wc_exit (qe_then_exit (qe_then_exit (qe_block_eq ?_)))))))
      cases oi dq
      exact qd ⟨aE,aF,aG,aH,aI,aJ,lay251,aw,rfl,bf.s,bg,bF,bG⟩
     rintro _ fq ⟨aY,aZ,ba,bb,bc,bd,lay233,aD,rfl,dV,dW,dX,dY⟩
     refine qe_block (qg (lv (rv_add_to rfl rfl (w64_succ hi187 (SliceAt.max bv))) (mv rfl (wl_nil ?_))))
     cases oi dn
     exact qd ⟨aY,aZ,ba,bb,bc,bd,lay233,aD,rfl,dV,((ar.trans bD.le).trans dW),dX,dY⟩
    rintro aV _ cS dZ ⟨aj,ak,am,an,ao,ap,lay180,aq,rfl,aW,ar,bz,bA⟩
    subst dZ
    refine sr (lv (rv_lss rfl rfl) (ns (wc_cond_f rfl (decide_eq_false (by omega)) (wc_exit (qe_then_exit (qe_then_exit (qe_block_eq ?_)))))))
    cases oi cR
    exact qd ⟨aj,ak,am,an,ao,ap,lay180,aq,rfl,aW.s,ar,bz,bA⟩
   rintro _ fr ⟨aO,aP,aQ,aR,aS,aT,lay162,aC,rfl,ea,eb,ec,ed⟩
   refine qe_block (qg (lv (rv_add_to rfl rfl (w64_succ hi121 (SliceAt.max (ay.mono ((S.trans U.le).trans V))))) (mv rfl (wl_nil ?_))))
   cases oi cP
   exact qd ⟨aO,aP,aQ,aR,aS,aT,lay162,aC,rfl,ea,(ai.trans eb),ec,ed⟩
  rintro aM _ cC ee ⟨ac,ad,ae,af,ag,ah,lay112,q,rfl,aN,ai,bs,bu⟩
  subst ee
  refine sr (lv (rv_lss rfl rfl) (ns (wc_cond_f rfl (decide_eq_false (by omega)) (wc_exit (qe_then_exit (qe_then_exit (qe_block_eq ?_)))))))
  cases oi cz
  exact qd ⟨ac,ad,ae,af,ag,ah,lay112,q,rfl,aN.s,ai,bs,bu⟩
 rintro _ fs ⟨X,Y,aa,I,J,O,lay94,aL,rfl,bS,ft,ef,eg⟩
 refine qr (fl ff43_1 rfl tf41 m1 bS rfl ?_)
 obtain⟨fu,cs315,eh,hrow317,hm318,ei⟩:=seg_see bS.f2 eg
 obtain⟨fv,ej,ek⟩:=ob cx
 refine wl_call wn rfl (rt_call (vs:=[V3 I J O,.func (.func 89) #[] #[]]) co88 rfl) (sort_rowI (T:=tGEntry) sortLay88 sortNone88 rfl (fun w=>Go.Fk.run_isAgg tf97 w) (fun w=>Go.Fk.run_sizeOf tf97 w) (fun a b=>M.impl_SegOf_1 F a b) 89 (Go.Proofs.enters_of func89 (by kernel_rfl) rfl) ei hrow317 hm318 (fun K1 W v x u y r hW h1 h2 hm=>by
  obtain⟨fx,fy,fz,rfl,en,eo,ep⟩:=h1
  obtain⟨fA,fB,fC,rfl,eq,es,et⟩:=h2
  exact(ok_impl_SegOf_1 (dr:=⟨True⟩) F (SH.start (dr:=⟨True⟩) hW) en eo ep eq es et hm).mono fun e w' ⟨K',he,hS',_⟩=>⟨K',he,hS'⟩) ej) ?_
 rintro fD fE ⟨cs335,rfl,bT,hrow337,hm338⟩
 refine⟨_,rfl,?_⟩
 refine nr (lv (rv_loadmS (ds:=[V3 X Y aa,V3 I J O]) tf43 rfl m2 bT rfl rfl) (lw [V3 X Y aa,V3 I J O] tf43 bT.f1 fun fF eu=>(nq (wc_ret ?_))))
 obtain⟨ev,ew,ex,bU⟩:=SH.freezeI eu.f1 hrow337 hm338
 cases oi ek
 exact ez results46 tf43 bU m1 ⟨X,Y,aa,I,J,O,ev,rfl,bU.s,(ef.mono (eh.trans ew)),ex⟩

theorem ok_slices_Equal_int {q0:List Int}{q1:List Int}{r:Bool}(hS:SH w K [] w K [])(i:SliceAt tInt K A a b q0)(s:SliceAt tInt K B c d q1)(hm:M.slices_Equal_int F q0 q1=some r):
  Calls prog 139 #[V3 A a b,V3 B c d] w (R_b w K r):=by
 rw [M.slices_Equal_int] at hm
 refine ci func139 u ntmps139 (sr (lv (r_f u) (nsr (mv u (lv (rv_len underlying30 u i) (mv u (lv (rv_len underlying30 u s) (lv (rv_neq u u) (nq ?_)))))))))
 refine wc_cond u (fun l=>?_) (fun l=>?_)
 ·have m:=cond_t l hm
  refine sr (lv (r_f u) (nq (rr ?_)))
  cases oi m
  exact ey results139 ⟨K,u,hS⟩
 have m:=cond_f l hm
 refine wc_skip (qs (sr (mv u (lv (rv_len underlying30 u i) (lv (r_m u) (nq ?_))))))
 obtain⟨I,J,k⟩:=ob m
 refine wc_cutg (IE I w K [] K [] []) ?_ ?_
 ·refine wc_block ?_
  obtain⟨aq,O,x⟩:=ob J
  refine qf (fun (y:Nat) (C:Unit)=>IV w K [] K [(0,V3 A a b),(1,V3 B c d),(12,V6 (q0.length:Int)),(13,V6 ((y:Nat):Int))] []) O ⟨K,u,hS,kr⟩ ?_ ?_
  ·rintro y C _ R ar hi29 S T ⟨D,rfl,o,f⟩
   refine sr (lv (rv_lss u u) (ns (wc_cond_t u (decide_eq_true (by omega)) (wc_skip (qe_seq (wc_seq (wc_block (sr (mv u (av u (ns (wc_quiet mixed (by kernel_rfl) o ?_))))))))))))
   refine km u (km u ?_)
   obtain⟨U,V,W⟩:=ob S
   refine ki underlying30 tf3 (i.mono f) V fun X Y au aa ab=>?_
   obtain⟨rfl,aw⟩:=aa
   have ac:AtK _ X Y [V6 U]:=ab
   refine kh (rq_load1 tf3 u (ac 0 _ u)) (km u (km u ?_))
   obtain⟨ad,ae,af⟩:=ob W
   refine ki underlying30 tf3 (s.mono f) ae fun ag ah ax ai aj=>?_
   obtain⟨rfl,ay⟩:=ai
   have ak:AtK _ ag ah [V6 ad]:=aj
   refine kh (rq_load1 tf3 u (ak 0 _ u)) (kv (rv_neq u u) (wq_nil ?_))
   rintro az ⟨G,H,al⟩
   refine qe_seq (wcc af u (fun am q=>?_) (fun am q=>?_))
   ·refine sr (lv (r_f u) (nq (wc_ret (qe_block_ret (qe_then_ret (qe_then_ret ?_))))))
    cases oi q
    cases T _ u
    refine qe_block_ret (qe_then_ret ?_)
    cases oi x
    refine qe_then_ret ?_
    cases oi k
    exact ey results139 ⟨G,u,H⟩
   refine wc_skip (qe_block (qg (lv (rv_add_to u u (w64_succ hi29 (SliceAt.max i))) (mv u (wl_nil ?_)))))
   cases oi q
   exact qd ⟨_,u,G,u,H,(f.trans al)⟩
  rintro C _ R an ⟨D,rfl,o,f⟩
  subst an
  refine sr (lv (rv_lss u u) (ns (wc_cond_f u (decide_eq_false (by omega)) (wc_exit (qe_then_exit (qe_then_exit (qe_block_eq ?_)))))))
  cases oi x
  exact qe_mid' ⟨_,D,u,u,o,f⟩ trivial
 rintro _ aA ⟨aB,ao,rfl,rfl,ap,aC⟩
 have k:=elim_l k
 refine qr (lv (r_t u) (nq (wc_ret ?_)))
 cases oi k
 exact ey results139 ⟨ao,u,ap⟩

theorem ok_impl_samePost {q0:GPost}{q1:GPost}{r:Bool}(hS:SH w K [] w K [])(J:rng64 q0.Doc)(l:SliceAt tInt K A a b q0.At)(O:rng64 q1.Doc)(m:SliceAt tInt K B c d q1.At)(hm:M.impl_samePost F q0 q1=some r):
  Calls prog 93 #[.agg #[V6 q0.Doc,V3 A a b],.agg #[V6 q1.Doc,V3 B c d]] w (R_b w K r):=by
 rw [M.impl_samePost] at hm
 refine ci func93 u ntmps93 (sr (bx u hS fun o R q=>?_))
 have s:SH _ _ _ _ _ [obj o [V6 q0.Doc,V3 A a b] 153]:=q
 refine bx u s fun x S y=>?_
 have i:SH _ _ _ _ _ [obj x [V6 q1.Doc,V3 B c d] 153,_]:=y
 refine lv (r_f u) (nr (fl ff153_0 u tf3 m1 i u (fl ff153_0 u tf3 m0 i u (lv (rv_eql u u) (mv u (bt hm (fun f k=>?_) (fun f k=>?_)))))))
 ·refine lg f (rv_fieldAddr ff153_1 u) (lg f (rv_loadm1 tf30 u m1 i u) (lg f (rv_fieldAddr ff153_1 u) (lg f (rv_loadm1 tf30 u m0 i u) ?_)))
  obtain⟨T,C,D⟩:=ob k
  refine wl_call (wg u u f) u (rt_call (vs:=[V3 A a b,V3 B c d]) co139 u) (ok_slices_Equal_int F i.enter0 l m C) ?_
  rintro U V ⟨G,rfl,H⟩
  refine⟨_,u,?_⟩
  have I:=(i.c0 H).t2
  refine lv (rv_pick_t u f u) (av u (nq (wc_ret ?_)))
  cases oi D
  exact ey results93 ⟨G,u,I.s⟩
 iterate 5 refine lu f ?_
 refine lv (p_f u f u) (av u (nq (wc_ret ?_)))
 cases oi k
 exact ey results93 ⟨K,u,i.s⟩

theorem ok_slices_EqualFunc_Post__impl_samePost {q0:List GPost}{q1:List GPost}{r:Bool}(hS:SH w K [] w K [])(i:SliceAt tGPost K A a b q0)(O:SliceAt tGPost K B c d q1)(hm:M.slices_EqualFunc_Post__impl_samePost F q0 q1=some r):
  Calls prog 92 #[V3 A a b,V3 B c d,.func (.func 93) #[] #[]] w (R_b w K r):=by
 rw [M.slices_EqualFunc_Post__impl_samePost] at hm
 refine ci func92 u ntmps92 (sr (lv (r_f u) (nsr (mv u (lv (rv_len underlying95 u i) (mv u (lv (rv_len underlying95 u O) (lv (rv_neq u u) (nq ?_)))))))))
 refine wc_cond u (fun H=>?_) (fun H=>?_)
 ·have I:=cond_t H hm
  refine sr (lv (r_f u) (nq (rr ?_)))
  cases oi I
  exact ey results92 ⟨K,u,hS⟩
 have I:=cond_f H hm
 refine wc_skip (qs (sr (mv u (lv (rv_len underlying95 u i) (lv (r_m u) (nq ?_))))))
 obtain⟨aa,ab,k⟩:=ob I
 refine wc_cutg (IE aa w K [] K [] []) ?_ ?_
 ·refine wc_block ?_
  obtain⟨aO,ac,R⟩:=ob ab
  refine qf (fun (S:Nat) (T:Unit)=>IV w K [] K [(1,V3 B c d),(2,.func (.func 93) #[] #[]),(15,V3 A a b),(16,V6 (q0.length:Int)),(17,V6 ((S:Nat):Int))] []) ac ⟨K,u,hS,kr⟩ ?_ ?_
  ·rintro S T _ ad aP hi29 ae af ⟨U,rfl,l,f⟩
   refine sr (lv (rv_lss u u) (ns (wc_cond_t u (decide_eq_true (by omega)) (wc_skip (qe_seq (wc_seq (wc_block (sr (mv u ?_)))))))))
   obtain⟨m,ag,ah⟩:=ob ae
   refine li underlying95 tf153 (i.mono f) ag fun ai aj aQ ak am=>?_
   obtain⟨o,q,s,rfl,an,ao⟩:=ak
   have ap:AtK _ ai aj [V6 m.Doc,V3 o q s]:=am
   refine lv (rv_loadS tf153 u l ap u) (al tf153 l fun aq aR ar=>?_)
   have au:SH _ _ _ _ _ [obj aq [V6 0,V3 none 0 0] 153]:=ar
   refine av u (lw [V6 m.Doc,V3 o q s] tf153 au fun aS V=>(nr (mv u (mv u ?_))))
   obtain⟨x,aw,ax⟩:=ob ah
   refine li underlying95 tf153 (O.mono f) aw fun ay az aT aA aB=>?_
   obtain⟨y,C,D,rfl,aC,aD⟩:=aA
   have aE:AtK _ ay az [V6 x.Doc,V3 y C D]:=aB
   refine lv (rv_loadS tf153 u V aE u) (al tf153 V fun aF aU aG=>?_)
   have aH:SH _ _ _ _ _ [obj aF [V6 0,V3 none 0 0] 153,_]:=aG
   refine lw [V6 x.Doc,V3 y C D] tf153 aH fun aV G=>(nr (mv u (lv (rv_loadmS (ds:=[V6 m.Doc,V3 o q s]) tf153 u m1 G u u) (lv (rv_loadmS (ds:=[V6 x.Doc,V3 y C D]) tf153 u m0 G u u) ?_))))
   obtain⟨aW,aI,aJ⟩:=ob ax
   refine wl_call wn u (rt_callv (vs:=[.agg #[V6 m.Doc,V3 o q s],.agg #[V6 x.Doc,V3 y C D]]) (cap:=#[]) co93 u u) (ok_impl_samePost F G.enter0 an ao aC aD aI) ?_
   rintro aX aY ⟨W,rfl,X⟩
   refine⟨_,u,?_⟩
   have Y:=(G.c0 X).t2
   refine lv (rv_not u) (nq (wcc aJ u (fun aK J=>?_) (fun aK J=>?_)))
   ·refine sr (lv (r_f u) (nq (wc_ret (qe_block_ret (qe_then_ret (qe_then_ret ?_))))))
    cases oi J
    cases af _ u
    refine qe_block_ret (qe_then_ret ?_)
    cases oi R
    refine qe_then_ret ?_
    cases oi k
    exact ey results92 ⟨W,u,Y.s⟩
   refine wc_skip (qe_block (qg (lv (rv_add_to u u (w64_succ hi29 (SliceAt.max i))) (mv u (wl_nil ?_)))))
   cases oi J
   exact qd ⟨_,u,W,u,Y.s,(f.trans X.le)⟩
  rintro T _ ad aL ⟨U,rfl,l,f⟩
  subst aL
  refine sr (lv (rv_lss u u) (ns (wc_cond_f u (decide_eq_false (by omega)) (wc_exit (qe_then_exit (qe_then_exit (qe_block_eq ?_)))))))
  cases oi R
  exact qe_mid' ⟨_,U,u,u,l,f⟩ trivial
 rintro _ aZ ⟨ba,aM,rfl,rfl,aN,bb⟩
 have k:=elim_l k
 refine qr (lv (r_t u) (nq (wc_ret ?_)))
 cases oi k
 exact ey results92 ⟨aM,u,aN⟩

theorem ok_impl_sameEntry {q0:GEntry}{q1:GEntry}{r:Bool}(hS:SH w K [] w K [])(R:q0.Field.length≤maxLen)(S:q0.Term.length≤maxLen)(o:SliceAt tGPost K A a b q0.Posts)(T:q1.Field.length≤maxLen)(U:q1.Term.length≤maxLen)(q:SliceAt tGPost K B c d q1.Posts)(hm:M.impl_sameEntry F q0 q1=some r):
  Calls prog 47 #[.agg #[sv q0.Field,sv q0.Term,V3 A a b],.agg #[sv q1.Field,sv q1.Term,V3 B c d]] w (R_b w K r):=by
 rw [M.impl_sameEntry] at hm
 refine ci func47 u ntmps47 (sr (bx u hS fun s V x=>?_))
 have y:SH _ _ _ _ _ [obj s [sv q0.Field,sv q0.Term,V3 A a b] 97]:=x
 refine bx u y fun C W D=>?_
 have f:SH _ _ _ _ _ [obj C [sv q1.Field,sv q1.Term,V3 B c d] 97,_]:=D
 refine lv (r_f u) (nr (fl ff97_0 u tf9 m1 f u (fl ff97_0 u tf9 m0 f u (lv (rv_seql u u) (mv u (bt hm (fun i l=>?_) (fun i l=>?_)))))))
 ·refine lg i (rv_fieldAddr ff97_1 u) (lg i (rv_loadm1 tf9 u m1 f u) (lg i (rv_fieldAddr ff97_1 u) (lg i (rv_loadm1 tf9 u m0 f u) (lg i (rv_seql u u) (lv (rv_pick_t u i u) (mv u (bt l (fun k m=>?_) (fun k m=>?_))))))))
  ·refine lg k (rv_fieldAddr ff97_2 u) (lg k (rv_loadm1 tf95 u m1 f u) (lg k (rv_fieldAddr ff97_2 u) (lg k (rv_loadm1 tf95 u m0 f u) ?_)))
   obtain⟨X,G,H⟩:=ob m
   refine wl_call (wg u u k) u (rt_call (vs:=[V3 A a b,V3 B c d,.func (.func 93) #[] #[]]) co92 u) (ok_slices_EqualFunc_Post__impl_samePost F f.enter0 o q G) ?_
   rintro Y aa ⟨I,rfl,J⟩
   refine⟨_,u,?_⟩
   have O:=(f.c0 J).t2
   refine lv (rv_pick_t u k u) (av u (nq (wc_ret ?_)))
   cases oi H
   exact ey results47 ⟨I,u,O.s⟩
  iterate 5 refine lu k ?_
  refine lv (p_f u k u) (av u (nq (wc_ret ?_)))
  cases oi m
  exact ey results47 ⟨K,u,f.s⟩
 iterate 5 refine lu i ?_
 refine lv (p_f u i u) (mv u ?_)
 iterate 5 refine lu u ?_
 refine lv (p_f u u u) (av u (nq (wc_ret ?_)))
 cases oi l
 exact ey results47 ⟨K,u,f.s⟩

theorem ok_slices_EqualFunc_Entry__impl_sameEntry {q0:List GEntry}{q1:List GEntry}{r:Bool}(hS:SH w K [] w K [])(l:SliceAt tGEntry K A a b q0)(O:SliceAt tGEntry K B c d q1)(hm:M.slices_EqualFunc_Entry__impl_sameEntry F q0 q1=some r):
  Calls prog 45 #[V3 A a b,V3 B c d,.func (.func 47) #[] #[]] w (R_b w K r):=by
 rw [M.slices_EqualFunc_Entry__impl_sameEntry] at hm
 refine ci func45 u ntmps45 (sr (lv (r_f u) (nsr (mv u (lv (rv_len underlying41 u l) (mv u (lv (rv_len underlying41 u O) (lv (rv_neq u u) (nq ?_)))))))))
 refine wc_cond u (fun H=>?_) (fun H=>?_)
 ·have I:=cond_t H hm
  refine sr (lv (r_f u) (nq (rr ?_)))
  cases oi I
  exact ey results45 ⟨K,u,hS⟩
 have I:=cond_f H hm
 refine wc_skip (qs (sr (mv u (lv (rv_len underlying41 u l) (lv (r_m u) (nq ?_))))))
 obtain⟨aa,ab,m⟩:=ob I
 refine wc_cutg (IE aa w K [] K [] []) ?_ ?_
 ·refine wc_block ?_
  obtain⟨aQ,ac,R⟩:=ob ab
  refine qf (fun (S:Nat) (T:Unit)=>IV w K [] K [(1,V3 B c d),(2,.func (.func 47) #[] #[]),(15,V3 A a b),(16,V6 (q0.length:Int)),(17,V6 ((S:Nat):Int))] []) ac ⟨K,u,hS,kr⟩ ?_ ?_
  ·rintro S T _ ad aR hi29 ae af ⟨U,rfl,o,k⟩
   refine sr (lv (rv_lss u u) (ns (wc_cond_t u (decide_eq_true (by omega)) (wc_skip (qe_seq (wc_seq (wc_block (sr (mv u ?_)))))))))
   obtain⟨f,ag,ah⟩:=ob ae
   refine li underlying41 tf97 (l.mono k) ag fun ai aj aS ak am=>?_
   obtain⟨q,s,x,rfl,an,ao,ap⟩:=ak
   have aq:AtK _ ai aj [sv f.Field,sv f.Term,V3 q s x]:=am
   refine lv (rv_loadS tf97 u o aq u) (al tf97 o fun ar aT au=>?_)
   have aw:SH _ _ _ _ _ [obj ar [sv [],sv [],V3 none 0 0] 97]:=au
   refine av u (lw [sv f.Field,sv f.Term,V3 q s x] tf97 aw fun aU V=>(nr (mv u (mv u ?_))))
   obtain⟨i,ax,ay⟩:=ob ah
   refine li underlying41 tf97 (O.mono k) ax fun az aA aV aB aC=>?_
   obtain⟨y,C,D,rfl,aD,aE,aF⟩:=aB
   have aG:AtK _ az aA [sv i.Field,sv i.Term,V3 y C D]:=aC
   refine lv (rv_loadS tf97 u V aG u) (al tf97 V fun aH aW aI=>?_)
   have aJ:SH _ _ _ _ _ [obj aH [sv [],sv [],V3 none 0 0] 97,_]:=aI
   refine lw [sv i.Field,sv i.Term,V3 y C D] tf97 aJ fun aX G=>(nr (mv u (lv (rv_loadmS (ds:=[sv f.Field,sv f.Term,V3 q s x]) tf97 u m1 G u u) (lv (rv_loadmS (ds:=[sv i.Field,sv i.Term,V3 y C D]) tf97 u m0 G u u) ?_))))
   obtain⟨aY,aK,aL⟩:=ob ay
   refine wl_call wn u (rt_callv (vs:=[.agg #[sv f.Field,sv f.Term,V3 q s x],.agg #[sv i.Field,sv i.Term,V3 y C D]]) (cap:=#[]) co47 u u) (ok_impl_sameEntry F G.enter0 an ao ap aD aE aF aK) ?_
   rintro aZ ba ⟨W,rfl,X⟩
   refine⟨_,u,?_⟩
   have Y:=(G.c0 X).t2
   refine lv (rv_not u) (nq (wcc aL u (fun aM J=>?_) (fun aM J=>?_)))
   ·refine sr (lv (r_f u) (nq (wc_ret (qe_block_ret (qe_then_ret (qe_then_ret ?_))))))
    cases oi J
    cases af _ u
    refine qe_block_ret (qe_then_ret ?_)
    cases oi R
    refine qe_then_ret ?_
    cases oi m
    exact ey results45 ⟨W,u,Y.s⟩
   refine wc_skip (qe_block (qg (lv (rv_add_to u u (w64_succ hi29 (SliceAt.max l))) (mv u (wl_nil ?_)))))
   cases oi J
   exact qd ⟨_,u,W,u,Y.s,(k.trans X.le)⟩
  rintro T _ ad aN ⟨U,rfl,o,k⟩
  subst aN
  refine sr (lv (rv_lss u u) (ns (wc_cond_f u (decide_eq_false (by omega)) (wc_exit (qe_then_exit (qe_then_exit (qe_block_eq ?_)))))))
  cases oi R
  exact qe_mid' ⟨_,U,u,u,o,k⟩ trivial
 rintro _ bb ⟨bc,aO,rfl,rfl,aP,bd⟩
 have m:=elim_l m
 refine qr (lv (r_t u) (nq (wc_ret ?_)))
 cases oi m
 exact ey results45 ⟨aO,u,aP⟩

theorem ok_impl_SegOk {q0:GConf}{q1:GSeg}{r:Bool}(hS:SH w K [] w K [])(T:SliceAt tStr K A a b q0.Stops)(U:SliceAt tGSyn K B c d q0.Syns)(V:SliceAt tGDoc K C f i q1.Docs)(ab:SliceAt tGEntry K D k l q1.Entries)(hm:M.impl_SegOk F q0 q1=some r):
  Calls prog 14 #[.agg #[V3 A a b,V3 B c d],.agg #[V3 C f i,V3 D k l]] w (R_b w K r):=by
 rw [M.impl_SegOk] at hm
 refine ci func14 u ntmps14 (sr (bx u hS fun s az ac=>?_))
 have ad:SH _ _ _ _ _ [obj s [V3 A a b,V3 B c d] 38]:=ac
 refine bx u ad fun x aA ae=>?_
 have O:SH _ _ _ _ _ [obj x [V3 C f i,V3 D k l] 43,_]:=ae
 refine lv (r_f u) (ns (wc_seq ?_))
 obtain⟨af,ag,ah⟩:=ob hm
 refine wc_cutg (IV w K [] K [(2,pt s),(3,pt x),(13,.bool af)] [obj s [V3 A a b,V3 B c d] 38,obj x [V3 C f i,V3 D k l] 43]) ?_ ?_
 ·refine wc_region (lv (rv_loadmS (ds:=[V3 A a b,V3 B c d]) tf38 u m1 O u u) ?_)
  obtain⟨aB,ai,aj⟩:=ob ag
  refine lk co43 (ok_impl_ConfOk F O.enter0 T U ai) ?_
  rintro aC aD ⟨ak,rfl,y⟩
  have G:=(O.c0 y).t2
  refine lv (rv_not u) (mv u (bt aj (fun m R=>?_) (fun m R=>?_)))
  ·refine lu m (lu m (lu m (lu m (lv (p_t u m u) (wl_nil ?_)))))
   cases oi R
   exact qd ⟨ak,u,G.f1,y.le⟩
  refine lg m (rv_fieldAddr ff43_0 u) (lg m (rv_loadm1 tf40 u m0 G u) ?_)
  obtain⟨aE,al,am⟩:=ob R
  refine wl_call (wg u u m) u (rt_call (vs:=[V3 C f i]) co44 u) (ok_impl_DocsOk F G.enter0 (V.mono y.le) al) ?_
  rintro aF aG ⟨an,rfl,W⟩
  refine⟨_,u,?_⟩
  have ao:=(G.c0 W).t2
  refine lg m (rv_not u) (lv (rv_pick_f u m u) (wl_nil ?_))
  cases oi am
  exact qd ⟨an,u,ao.f1,(y.le.trans W.le)⟩
 rintro _ aH ⟨X,rfl,Y,H⟩
 refine qe_seq (wcc ah u (fun ap S=>?_) (fun ap S=>?_))
 ·refine sr (lv (r_f u) (nq (rr ?_)))
  cases oi S
  exact ey results14 ⟨X,u,Y.s⟩
 refine wc_skip (qs ?_)
 have o:=Y.drew
 refine j_0 (fun w'=>Holds X w'∧HasObj s [V3 A a b,V3 B c d] w'∧HasObj x [V3 C f i,V3 D k l] w') 9 [] mixed ⟨o.hasK kr,o.hasObj m0,o.hasObj m1⟩ (jh 0 u (fun _ h=>rh_loadmS (ds:=[V3 A a b,V3 B c d]) tf38 u u u h.2.1) (jv 1 u (rv_fieldAddr ff43_0 u) (jh 2 u (fun _ h=>rh_loadm1 tf40 u u h.2.2) (jv 5 u (rv_fieldAddr ff43_1 u) (jh 6 u (fun _ h=>rh_loadm1 tf41 u u h.2.2) (j1 3 u ?_))))))
 obtain⟨aI,aq,ar⟩:=ob S
 refine lk co46 (ok_impl_SegOf F o.enter0 (T.mono H) (U.mono H) (V.mono H) aq) ?_
 rintro aJ aK ⟨aL,aM,aN,aO,aP,aQ,aR,rfl,I,aS,au⟩
 have q:=(o.c0 I).t3
 refine j_o ⟨q.hasK I.le,q.hasObj m1,q.hasObj m2⟩ (jv 4 u (rv_field fg43_1 tf41 u (.inl ⟨u,u⟩)) (j1 7 u ?_))
 obtain⟨aT,aw,ax⟩:=ob ar
 refine lk co45 (ok_slices_EqualFunc_Entry__impl_sameEntry F q.enter0 au (ab.mono (H.trans I.le)) aw) ?_
 rintro aU aV ⟨ay,rfl,aa⟩
 have J:=(q.c0 aa).t3
 refine j_o ⟨J.hasK (I.le.trans aa.le),J.hasObj m1,J.hasObj m2⟩ (jv 8 u (rv_assign u) (jd (qe_seq (wc_ret ?_))))
 cases oi ax
 exact ey results14 ⟨ay,u,J.s⟩

theorem ok_impl_UpOk {q0:List Int}{r:Bool}(hS:SH w K [] w K [])(f:SliceAt tInt K A a b q0)(hm:M.impl_UpOk F q0=some r):
  Calls prog 120 #[V3 A a b] w (R_b w K r):=by
 rw [M.impl_UpOk] at hm
 refine ci func120 u ntmps120 (sr (lv (r_f u) (nsr (mv u (lv (rv_len underlying30 u f) (lv (r_m u) (nq ?_)))))))
 obtain⟨J,O,m⟩:=ob hm
 refine wc_cutg (IE J w K [] K [(0,V3 A a b)] []) ?_ ?_
 ·refine wc_block ?_
  obtain⟨aB,R,D⟩:=ob O
  refine qf (fun (q:Nat) (G:Unit)=>IV w K [] K [(0,V3 A a b),(5,V3 A a b),(6,V6 (q0.length:Int)),(7,V6 ((q:Nat):Int))] []) R ⟨K,u,hS,kr⟩ ?_ ?_
  ·rintro q G _ S aC hi23 T U ⟨s,rfl,i,k⟩
   refine sr (lv (rv_lss u u) (ns (wc_cond_t u (decide_eq_true (by omega)) (wc_skip (qe_seq (wc_seq (wc_block (sr (mv u ?_)))))))))
   obtain⟨V,W,X⟩:=ob T
   refine li underlying30 tf3 (f.mono k) W fun Y aa aD ab ac=>?_
   obtain⟨rfl,ad⟩:=ab
   have ae:AtK _ Y aa [V6 V]:=ac
   refine lv (rv_load1 tf3 u i (ae 0 _ u)) (av u (av u (ns ?_)))
   obtain⟨af,ag,ah⟩:=ob X
   refine wc_cutg (IV w K [] s [(0,V3 A a b),(5,V3 A a b),(6,V6 (q0.length:Int)),(7,V6 ((q:Nat):Int)),(27,.bool af)] []) ?_ ?_
   ·refine wc_region (mv u ?_)
    obtain⟨aE,ai,aj⟩:=ob ag
    refine lk co83 (ok_impl_within F i.enter0 ad d_0 (by decide :rng64 999999999) ai) ?_
    rintro aF aG ⟨x,rfl,l⟩
    have o:=(i.c0 l).t0
    refine lv (rv_not u) (mv u (bt aj (fun c y=>?_) (fun c y=>?_)))
    ·refine lu c (lu c (lu c (wl_un (uu u u) u (wl_un (uu u u) u (wl_un (uu u u) u (wl_un (uu u u) u (wl_un (uu u u) u (wl_un (uu u u) u (wl_un (uu u u) u ?_)))))))))
     refine lu c (lv (p_t u c u) (wl_nil ?_))
     cases oi y
     exact qd ⟨x,u,o,l.le⟩
    refine lg c (rv_move u) (lg c (rv_gtr u u) (lg c (rv_move u) (bt y (fun d B=>?_) (fun d B=>?_))))
    ·refine lg d (rv_move u) (lg d (rv_move u) (lg d (rv_sub u u) ?_))
     obtain⟨ak,al,am⟩:=ob B
     refine wl_indexAddr (t:=tInt) (wg u u d) u underlying30 tf3 u u (f.mono (k.trans l.le)) al fun an ao aH ap aq=>?_
     obtain⟨rfl,aI⟩:=ap
     have ar:AtK _ an ao [V6 ak]:=aq
     refine lg d (rv_load1 tf3 u o (ar 0 _ u)) (lg d (rv_move u) (lg d (rv_geq u u) (lg c (rv_pick_t u d u) (lv (rv_pick_f u c u) (wl_nil ?_)))))
     cases oi am
     exact qd ⟨x,u,o,l.le⟩
    iterate 7 refine lu d ?_
    refine lg c (p_f u d u) (lv (rv_pick_f u c u) (wl_nil ?_))
    cases oi B
    exact qd ⟨x,u,o,l.le⟩
   rintro _ aJ ⟨H,rfl,I,au⟩
   refine qe_seq (wcc ah u (fun aw C=>?_) (fun aw C=>?_))
   ·refine sr (lv (r_f u) (nq (wc_ret (qe_block_ret (qe_then_ret (qe_then_ret ?_))))))
    cases oi C
    cases U _ u
    refine qe_block_ret (qe_then_ret ?_)
    cases oi D
    refine qe_then_ret ?_
    cases oi m
    exact ey results120 ⟨H,u,I⟩
   refine wc_skip (qe_block (qg (lv (rv_add_to u u (w64_succ hi23 (SliceAt.max f))) (mv u (wl_nil ?_)))))
   cases oi C
   exact qd ⟨_,u,H,u,I,(k.trans au)⟩
  rintro G _ S ax ⟨s,rfl,i,k⟩
  subst ax
  refine sr (lv (rv_lss u u) (ns (wc_cond_f u (decide_eq_false (by omega)) (wc_exit (qe_then_exit (qe_then_exit (qe_block_eq ?_)))))))
  cases oi D
  exact qd ⟨_,s,u,u,i,k⟩
 rintro _ aK ⟨s8,K9,rfl,rfl,az,aA⟩
 have m:=elim_l m
 refine qr (mv u (lv (rv_len underlying30 u (f.mono aA)) (lv (rv_leq u u) (av u (nq (wc_ret ?_))))))
 cases oi m
 exact ey results120 ⟨K9,u,az⟩

theorem ok_slices_Index_int {q0:List Int}{q1:Int}{r:Int}(hS:SH w K [] w K [])(d:SliceAt tInt K A a b q0)(Y:rng64 q1)(hm:M.slices_Index_int F q0 q1=some r):
  Calls prog 206 #[V3 A a b,V6 q1] w (R_i w K r):=by
 rw [M.slices_Index_int] at hm
 refine ci func206 u ntmps206 (sr (lv (r_0 u) (nsr (mv u (lv (rv_len underlying30 u d) (lv (r_m u) (nq ?_)))))))
 obtain⟨s,x,f⟩:=ob hm
 refine wc_cutg (IE s w K [] K [] []) ?_ ?_
 ·refine wc_block ?_
  obtain⟨aa,y,m⟩:=ob x
  refine qf (fun (o:Nat) (q:Unit)=>IV w K [] K [(0,V3 A a b),(1,V6 q1),(7,V6 (q0.length:Int)),(8,V6 ((o:Nat):Int))] []) y ⟨K,u,hS,kr⟩ ?_ ?_
  ·rintro o q _ B ab hi24 C D ⟨i,rfl,c,k⟩
   refine sr (lv (rv_lss u u) (ns (wc_cond_t u (decide_eq_true (by omega)) (wc_skip (qe_seq (wc_seq (wc_block (sr (mv u (av u (nr (mv u ?_))))))))))))
   refine mv u (mv u ?_)
   obtain⟨G,H,I⟩:=ob C
   refine li underlying30 tf3 (d.mono k) H fun J O ac R S=>?_
   obtain⟨rfl,ad⟩:=R
   have T:AtK _ J O [V6 G]:=S
   refine lv (rv_load1 tf3 u c (T 0 _ u)) (lv (rv_eql u u) (nq (wcc I u (fun U l=>?_) (fun U l=>?_))))
   ·refine sr (mv u (av u (nq (wc_ret (qe_block_ret (qe_then_ret (qe_then_ret ?_)))))))
    cases oi l
    cases D _ u
    refine qe_block_ret (qe_then_ret ?_)
    cases oi m
    refine qe_then_ret ?_
    cases oi f
    exact ey results206 ⟨i,u,c,(rng_idx hi24 (SliceAt.max d))⟩
   refine wc_skip (qe_block (qg (lv (rv_add_to u u (w64_succ hi24 (SliceAt.max d))) (mv u (wl_nil ?_)))))
   cases oi l
   exact qd ⟨_,u,i,u,c,k⟩
  rintro q _ B V ⟨i,rfl,c,k⟩
  subst V
  refine sr (lv (rv_lss u u) (ns (wc_cond_f u (decide_eq_false (by omega)) (wc_exit (qe_then_exit (qe_then_exit (qe_block_eq ?_)))))))
  cases oi m
  exact qe_mid' ⟨_,i,u,u,c,k⟩ trivial
 rintro _ ae ⟨s9,W,rfl,rfl,X,ag⟩
 have f:=elim_l f
 refine qr (lv (rv_assign (v:=V6 (-1)) u) (nq (wc_ret ?_)))
 cases oi f
 exact ey results206 ⟨W,u,X,(by decide :rng64 (-1))⟩

theorem ok_slices_Contains_int {q0:List Int}{q1:Int}{r:Bool}(hS:SH w K [] w K [])(c:SliceAt tInt K A a b q0)(d:rng64 q1)(hm:M.slices_Contains_int F q0 q1=some r):
  Calls prog 165 #[V3 A a b,V6 q1] w (R_b w K r):=by
 rw [M.slices_Contains_int] at hm
 refine ci func165 u ntmps165 (sr (lv (r_f u) (nr (mv u (mv u ?_)))))
 obtain⟨o,f,i⟩:=ob hm
 refine lk co206 (ok_slices_Index_int F hS.enter0 c d f) ?_
 rintro q s ⟨k,rfl,l,x⟩
 have m:=(hS.c0 l).t0
 refine lv (rv_geq u u) (av u (nq (wc_ret ?_)))
 cases oi i
 exact ey results165 ⟨k,u,m⟩

theorem ok_impl_Live_alive {q0:GLive}{r:(List GDoc)}(hS:SH w K [] w K [])(V:SliceAt tGDoc K A a b q0.Seg.Docs)(bd:SliceAt tGEntry K B c d q0.Seg.Entries)(aj:SliceAt tInt K C f i q0.Dead)(hm:M.impl_Live_alive F q0=some r):
  Calls prog 122 #[.agg #[V3 A a b,V3 B c d,V3 C f i]] w fun e w'=>∃a_1 n_2 c_3 K',e= .returned (V3 a_1 n_2 c_3)∧SH w K [] w' K' [tail (V3 a_1 n_2 c_3) 64 3]∧SliceAt tGDoc K' a_1 n_2 c_3 r:=by
 rw [M.impl_Live_alive] at hm
 refine ci func122 u ntmps122 (sr (bx u hS fun aa be ak=>?_))
 have am:SH _ _ _ _ _ [obj aa [V3 A a b,V3 B c d,V3 C f i] 45]:=ak
 refine lv (r_n u) (nr (b0 tGDoc underlying40 tf64 am fun an bf ab O ao af=>(av u (nsr (fa ff45_0 u (fl ff43_0 u tf40 m1 af u (lv (rv_len underlying40 u (V.mono O)) (lv (r_m u) (nq ?_)))))))))
 obtain⟨ap,aq,ar⟩:=ob hm
 refine wc_cutg (fun E' w'=>∃R S T U,E'=[(3,V3 R S T)]∧SH w K [] w' U [tail (V3 R S T) 64 3]∧KLe ab U∧SliceAt tGDoc U R S T ap) ?_ ?_
 ·refine wc_block ?_
  obtain⟨bg,au,aw⟩:=ob aq
  refine qF (fun (ag:Nat) (ac:(List GDoc)) E' w'=>∃k l m q,E'=[(1,pt aa),(3,V3 k l m),(9,V3 A a b),(10,V6 (q0.Seg.Docs.length:Int)),(11,V6 ((ag:Nat):Int))]∧SH w K [] w' q [obj aa [V3 A a b,V3 B c d,V3 C f i] 45,tail (V3 k l m) 64 3]∧KLe ab q∧SliceAt tGDoc q k l m ac) au ⟨an,0,0,ab,u,af.f1,kr,ao⟩ ?_ ?_
  ·rintro ag ac _ ax bh hi49 ay ⟨k,l,m,q,rfl,W,s,X⟩
   refine sr (lv (rv_lss u u) (ns (wc_cond_t u (decide_eq_true (by omega)) (wc_skip (qe_seq (wc_seq (wc_block (sr ?_))))))))
   obtain⟨x,az,aA⟩:=ob ay
   refine li underlying40 tf64 (V.mono (O.trans s)) az fun aB aC bi aD aE=>?_
   obtain⟨y,D,G,H,I,J,rfl,ah,aF,aG⟩:=aD
   have aH:AtK _ aB aC [V6 x.Id,V3 y D G,V3 H I J]:=aE
   refine lv (rv_loadS tf64 u W aH u) (al tf64 W fun aI bj aJ=>?_)
   have aK:SH _ _ _ _ _ [obj aI [V6 0,V3 none 0 0,V3 none 0 0] 64,_,_]:=aJ
   refine lw [V6 x.Id,V3 y D G,V3 H I J] tf64 aK fun bk Y=>(nr (fl ff45_1 u tf30 m1 Y u (fl ff64_0 u tf3 m0 Y u ?_)))
   obtain⟨bl,aL,aM⟩:=ob aA
   refine lk co165 (ok_slices_Contains_int F Y.enter0 (aj.mono (O.trans s)) ah aL) ?_
   rintro bm bn ⟨aN,rfl,o⟩
   have ad:=(Y.c0 o).t3
   refine lv (rv_not u) (nq (wcc aM u (fun aO ae=>?_) (fun aO ae=>?_)))
   ·refine wc_region (mv u (lv (rv_loadmS (ds:=[V6 x.Id,V3 y D G,V3 H I J]) tf64 u m0 ad u u) (lb tGDoc (.agg #[V6 x.Id,V3 y D G,V3 H I J]) [V6 x.Id,V3 y D G,V3 H I J] x underlying40 tf64 ⟨y,D,G,H,I,J,u,ah,(aF.mono o.le),(aG.mono o.le)⟩ ad fun bo bp bq ai aP aQ=>?_)))
    obtain⟨br,aR,aS⟩:=ob ae
    refine lp underlying40 tf64 (X.mono (o.le.trans ai)) aP aR aQ.f3 fun aT aU aV bs aW aX aY aZ=>(av u (nb (qg (lv (rv_add_to u u (w64_succ hi49 (SliceAt.max (V.mono O)))) (mv u (wl_nil ?_))))))
    cases oi aS
    exact qd ⟨aT,aU,aV,aW,u,aZ.f3.s,(((s.trans o.le).trans ai).trans aX),aY⟩
   refine wc_skip (qe_block (qg (lv (rv_add_to u u (w64_succ hi49 (SliceAt.max (V.mono O)))) (mv u (wl_nil ?_)))))
   cases oi ae
   exact qd ⟨k,l,m,aN,u,ad.s,(s.trans o.le),(X.mono o.le)⟩
  rintro ac _ ax ba ⟨k,l,m,q,rfl,W,s,X⟩
  subst ba
  refine sr (lv (rv_lss u u) (ns (wc_cond_f u (decide_eq_false (by omega)) (wc_exit (qe_then_exit (qe_then_exit (qe_block_eq ?_)))))))
  cases oi aw
  exact qd ⟨k,l,m,q,u,W.s,s,X⟩
 rintro _ bu ⟨R,S,T,U,rfl,bb,bv,bc⟩
 refine qr (mv u (av u (nq (wc_ret ?_))))
 cases oi ar
 exact ey results122 ⟨R,S,T,U,u,bb,bc⟩

theorem ok_impl_Seg_doc__ofGLive0 {q0:GLive}{q1:Int}{r:GDoc×Bool}(hS:SH w K Z w K [obj g1 [V3 A a b,V3 B c d,V3 C f i] 45])(aa:SliceAt tGDoc K A a b q0.Seg.Docs)(aR:SliceAt tGEntry K B c d q0.Seg.Entries)(aS:SliceAt tInt K C f i q0.Dead)(aT:rng64 q1)(hm:M.impl_Seg_doc__ofGLive0 F q0 q1=some r):
  Calls prog 121 #[.pointer (some ⟨g1,0,none⟩),V6 q1] w fun e w'=>∃a_2 n_3 c_4 a_6 n_7 c_8 K',e= .returned (.tuple #[.agg #[V6 r.1.Id,V3 a_2 n_3 c_4,V3 a_6 n_7 c_8],.bool r.2])∧SH w K Z w' K' [obj g1 [V3 A a b,V3 B c d,V3 C f i] 45]∧rng64 r.1.Id∧SliceAt tGField K' a_2 n_3 c_4 r.1.Fields∧SliceAt tGAttr K' a_6 n_7 c_8 r.1.Nums:=by
 rw [M.impl_Seg_doc__ofGLive0] at hm
 refine ci func121 u ntmps121 (sr (al tf64 hS fun T aU ar=>?_))
 have am:SH _ _ _ _ _ [obj T [V6 0,V3 none 0 0,V3 none 0 0] 64,_]:=ar
 refine lv (r_f u) (nsr (mv u (lv (rv_nilCheck u) (fl ff43_0 u tf40 m1 am u (lv (rv_len underlying40 u aa) (lv (r_m u) (nq ?_)))))))
 obtain⟨au,aw,V⟩:=ob hm
 refine wc_cutg (fun E' w'=>∃l ab ac ad ae af ag m,au= .inl l∧E'=[(0,pt g1),(4,pt T)]∧SH w K Z w' m [obj g1 [V3 A a b,V3 B c d,V3 C f i] 45,obj T [V6 l.Id,V3 ab ac ad,V3 ae af ag] 64]∧KLe K m∧rng64 l.Id∧SliceAt tGField m ab ac ad l.Fields∧SliceAt tGAttr m ae af ag l.Nums) ?_ ?_
 ·refine wc_block ?_
  obtain⟨aV,ax,an⟩:=ob aw
  refine qf (fun (ao:Nat) (o:GDoc) E' w'=>∃q s x y D G k,E'=[(0,pt g1),(1,V6 q1),(4,pt T),(11,V3 A a b),(12,V6 (q0.Seg.Docs.length:Int)),(13,V6 ((ao:Nat):Int))]∧SH w K Z w' k [obj g1 [V3 A a b,V3 B c d,V3 C f i] 45,obj T [V6 o.Id,V3 q s x,V3 y D G] 64]∧KLe K k∧rng64 o.Id∧SliceAt tGField k q s x o.Fields∧SliceAt tGAttr k y D G o.Nums) ax ⟨none,0,0,none,0,0,K,u,am.f1,kr,d_0,(SliceAt.nil _ _),(SliceAt.nil _ _)⟩ ?_ ?_
  ·rintro ao o _ ay aW hi57 az aA ⟨q,s,x,y,D,G,k,rfl,W,X,ah,ai,aj⟩
   refine sr (lv (rv_lss u u) (ns (wc_cond_t u (decide_eq_true (by omega)) (wc_skip (qe_seq (wc_seq (wc_block (sr ?_))))))))
   obtain⟨U,aB,aC⟩:=ob az
   refine li underlying40 tf64 (aa.mono X) aB fun aD aE aX aF aG=>?_
   obtain⟨H,I,J,O,R,S,rfl,aH,aI,aJ⟩:=aF
   have aK:AtK _ aD aE [V6 U.Id,V3 H I J,V3 O R S]:=aG
   refine lv (rv_loadS tf64 u W aK u) (al tf64 W fun aL aY aM=>?_)
   have aN:SH _ _ _ _ _ [obj aL [V6 0,V3 none 0 0,V3 none 0 0] 64,_,_]:=aM
   refine lw [V6 U.Id,V3 H I J,V3 O R S] tf64 aN fun aZ Y=>(nr (fl ff64_0 u tf3 m0 Y u (mv u (lv (rv_eql u u) (nq (wcc aC u (fun aO ak=>?_) (fun aO ak=>?_)))))))
   ·refine sr (lv (rv_loadmS (ds:=[V6 U.Id,V3 H I J,V3 O R S]) tf64 u m0 Y u u) (lw [V6 U.Id,V3 H I J,V3 O R S] tf64 Y.f2 fun ba ap=>(lv (r_t u) (nq (wc_ret (qe_block_ret (qe_then_ret (qe_then_ret ?_))))))))
    cases oi ak
    cases aA _ u
    refine qe_block_ret (qe_then_ret ?_)
    cases oi an
    refine qe_then_ret ?_
    cases oi V
    exact qe_ret (vs:=[_,_]) results121 ⟨⟨_,_,u,run_loadVar_at tf64 (cs:=[V6 U.Id,V3 H I J,V3 O R S]) (fun j c e=>by rw [Nat.zero_add,ap.mem_obj m0];exact e) (.inl ⟨u,u,u⟩)⟩,u,trivial⟩ ⟨H,I,J,O,R,S,k,u,ap.s,aH,aI,aJ⟩
   refine wc_skip (qe_block (qg (lv (rv_add_to u u (w64_succ hi57 (SliceAt.max aa))) (mv u (wl_nil ?_)))))
   cases oi ak
   exact qd ⟨_,u,q,s,x,y,D,G,k,u,Y.s,X,ah,ai,aj⟩
  rintro o _ ay aP ⟨q,s,x,y,D,G,k,rfl,W,X,ah,ai,aj⟩
  subst aP
  refine sr (lv (rv_lss u u) (ns (wc_cond_f u (decide_eq_false (by omega)) (wc_exit (qe_then_exit (qe_then_exit (qe_block_eq ?_)))))))
  cases oi an
  exact qd ⟨_,q,s,x,y,D,G,k,u,u,W,X,ah,ai,aj⟩
 rintro _ bb ⟨l,ab,ac,ad,ae,af,ag,m,rfl,rfl,aQ,bc,bd,be,bf⟩
 have V:=elim_l V
 refine qr (lv (rv_build (cs:=#[V6 0,V3 none 0 0,V3 none 0 0]) sp64 tf64 u (by kernel_rfl)) (lw [V6 0,V3 none 0 0,V3 none 0 0] tf64 aQ.f1 fun bg aq=>(lv (r_f u) (nq (wc_ret ?_)))))
 cases oi V
 exact qe_ret (vs:=[_,_]) results121 ⟨⟨_,_,u,run_loadVar_at tf64 (cs:=[V6 0,V3 none 0 0,V3 none 0 0]) (fun j c e=>by rw [Nat.zero_add,aq.mem_obj m0];exact e) (.inl ⟨u,u,u⟩)⟩,u,trivial⟩ ⟨none,0,0,none,0,0,m,u,aq.s,d_0,(SliceAt.nil _ _),(SliceAt.nil _ _)⟩

theorem ok_impl_liveOk {q0:GConf}{q1:GLive}{r:Bool}(hS:SH w K [] w K [])(ak:SliceAt tStr K A a b q0.Stops)(am:SliceAt tGSyn K B c d q0.Syns)(T:SliceAt tGDoc K C f i q1.Seg.Docs)(U:SliceAt tGEntry K D k l q1.Seg.Entries)(y:SliceAt tInt K G m n q1.Dead)(hm:M.impl_liveOk F q0 q1=some r):
  Calls prog 74 #[.agg #[V3 A a b,V3 B c d],.agg #[V3 C f i,V3 D k l,V3 G m n]] w (R_b w K r):=by
 rw [M.impl_liveOk] at hm
 refine ci func74 u ntmps74 (sr (bx u hS fun an bp ao=>?_))
 have ap:SH _ _ _ _ _ [obj an [V3 A a b,V3 B c d] 38]:=ao
 refine bx u ap fun s bq aq=>?_
 have I:SH _ _ _ _ _ [obj s [V3 C f i,V3 D k l,V3 G m n] 45,_]:=aq
 refine lv (r_f u) (ns (wc_seq ?_))
 obtain⟨ar,au,aw⟩:=ob hm
 refine wc_cutg (IV w K [] K [(3,pt s),(19,.bool ar)] [obj s [V3 C f i,V3 D k l,V3 G m n] 45]) ?_ ?_
 ·refine wc_region (lv (rv_loadmS (ds:=[V3 A a b,V3 B c d]) tf38 u m1 I u u) (fa ff45_0 u (lv (rv_loadmS (ds:=[V3 C f i,V3 D k l]) tf43 u m0 I u u) ?_)))
  obtain⟨br,ax,ay⟩:=ob au
  refine lk co14 (ok_impl_SegOk F I.enter0 ak am T U ax) ?_
  rintro bs bu ⟨az,rfl,J⟩
  have O:=(I.c0 J).t2
  refine lv (rv_not u) (mv u (bt ay (fun o V=>?_) (fun o V=>?_)))
  ·refine lu o (lu o (lu o (lu o (lv (p_t u o u) (wl_nil ?_)))))
   cases oi V
   exact qd ⟨az,u,O.s,J.le⟩
  refine lg o (rv_fieldAddr ff45_1 u) (lg o (rv_loadm1 tf30 u m0 O u) ?_)
  obtain⟨bv,aA,aB⟩:=ob V
  refine wl_call (wg u u o) u (rt_call (vs:=[V3 G m n]) co120 u) (ok_impl_UpOk F O.enter0 (y.mono J.le) aA) ?_
  rintro bz bA ⟨aC,rfl,ac⟩
  refine⟨_,u,?_⟩
  have aD:=(O.c0 ac).t2
  refine lg o (rv_not u) (lv (rv_pick_f u o u) (wl_nil ?_))
  cases oi aB
  exact qd ⟨aC,u,aD.s,(J.le.trans ac.le)⟩
 rintro _ bB ⟨R,rfl,W,q⟩
 refine qe_seq (wcc aw u (fun aE X=>?_) (fun aE X=>?_))
 ·refine sr (lv (r_f u) (nq (rr ?_)))
  cases oi X
  exact ey results74 ⟨R,u,W.s⟩
 refine wc_skip (qs (sr (fl ff45_1 u tf30 m0 W u (lv (rv_len underlying30 u (y.mono q)) (lv (r_m u) (nq ?_))))))
 obtain⟨aF,aG,S⟩:=ob X
 refine wc_cutg (IE aF w K [] R [(3,pt s)] [obj s [V3 C f i,V3 D k l,V3 G m n] 45]) ?_ ?_
 ·refine wc_block ?_
  obtain⟨bC,aH,ad⟩:=ob aG
  refine qf (fun (ae:Nat) (af:Unit)=>IV w K [] R [(3,pt s),(21,V3 G m n),(22,V6 (q1.Dead.length:Int)),(23,V6 ((ae:Nat):Int))] [obj s [V3 C f i,V3 D k l,V3 G m n] 45]) aH ⟨R,u,W,kr⟩ ?_ ?_
  ·rintro ae af _ aI bD hi77 aJ aK ⟨ag,rfl,H,x⟩
   refine sr (lv (rv_lss u u) (ns (wc_cond_t u (decide_eq_true (by omega)) (wc_skip (qe_seq (wc_seq (wc_block (sr ?_))))))))
   obtain⟨aL,aM,aN⟩:=ob aJ
   refine li underlying30 tf3 (y.mono (q.trans x)) aM fun aO aP bE aQ aR=>?_
   obtain⟨rfl,aS⟩:=aQ
   have aT:AtK _ aO aP [V6 aL]:=aR
   refine lv (rv_load1 tf3 u H (aT 0 _ u)) (av u (nr (fa ff45_0 u (mv u ?_))))
   obtain⟨aU,aV,aW⟩:=ob aN
   refine lk co121 (ok_impl_Seg_doc__ofGLive0 F H.e1 (T.mono (q.trans x)) (U.mono (q.trans x)) (y.mono (q.trans x)) aS aV) ?_
   rintro bF bG ⟨aX,aY,aZ,ba,bb,bc,ah,rfl,ai,bH,bI,bJ⟩
   have bd:=(H.c1 ai).t1
   refine mv u (lv (rv_extract u u) (lv (rv_extract u u) (al tf64 bd fun be bK bf=>?_)))
   have bg:SH _ _ _ _ _ [obj be [V6 0,V3 none 0 0,V3 none 0 0] 64,_]:=bf
   refine lw [V6 aU.1.Id,V3 aX aY aZ,V3 ba bb bc] tf64 bg fun bL aj=>(av u (nr (mv u (lv (rv_not u) (nq (wcc aW u (fun bh Y=>?_) (fun bh Y=>?_)))))))
   ·refine sr (lv (r_f u) (nq (wc_ret (qe_block_ret (qe_then_ret (qe_then_ret ?_))))))
    cases oi Y
    cases aK _ u
    refine qe_block_ret (qe_then_ret ?_)
    cases oi ad
    refine qe_then_ret ?_
    cases oi S
    exact ey results74 ⟨ah,u,aj.s⟩
   refine wc_skip (qe_block (qg (lv (rv_add_to u u (w64_succ hi77 (SliceAt.max (y.mono q)))) (mv u (wl_nil ?_)))))
   cases oi Y
   exact qd ⟨_,u,ah,u,aj.s,(x.trans ai.le)⟩
  rintro af _ aI bi ⟨ag,rfl,H,x⟩
  subst bi
  refine sr (lv (rv_lss u u) (ns (wc_cond_f u (decide_eq_false (by omega)) (wc_exit (qe_then_exit (qe_then_exit (qe_block_eq ?_)))))))
  cases oi ad
  exact qd ⟨_,ag,u,u,H,x⟩
 rintro _ bM ⟨bN,bO,rfl,rfl,aa,ab⟩
 have S:=elim_l S
 refine qr (lv (rv_loadmS (ds:=[V3 C f i,V3 D k l,V3 G m n]) tf45 u m0 aa u u) ?_)
 obtain⟨bP,bj,bk⟩:=ob S
 refine lk co122 (ok_impl_Live_alive F aa.enter0 (T.mono (q.trans ab)) (U.mono (q.trans ab)) (y.mono (q.trans ab)) bj) ?_
 rintro bQ bR ⟨bS,bT,bU,bl,rfl,bm,bn⟩
 have bo:=(aa.c0 bm).t2
 refine lv (rv_len underlying40 u bn) (lv (rv_gtr u u) (av u (nq (wc_ret ?_))))
 cases oi bk
 exact ey results74 ⟨bl,u,bo.s⟩
end Go.Proofs.YtpdfkjjmcnhakaaGreatDoor
