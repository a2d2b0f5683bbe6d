/-
 Walks of the functions. Printed by gen.py.
-/
import Derived.Test.YtpjefkdclnmlfaaGreatWalkA0
import Derived.Test.YtpjefkdclnmlfaaGreatWalkA1
import Derived.Test.YtpjefkdclnmlfaaGreatWalkA2
import Derived.Test.YtpjefkdclnmlfaaGreatWalkA4
import Derived.Test.YtpjefkdclnmlfaaGreatWalkA5
import Derived.Test.YtpjefkdclnmlfaaGreatWalkA6
set_option linter.unusedVariables false
set_option linter.unusedSectionVars false
set_option maxRecDepth 100000
namespace Go.Proofs.YtpjefkdclnmlfaaGreat
set_option maxHeartbeats 4000000
open Go Go.Fk Go.RowKit Tryz
variable (F:Nat){w:World}{K:KMap}{Z:List Nat}{g1 g2 g3:Nat}{A B C D G H I J O R S T:Option Addr}{a b c d f i k l m n o p q s v x y aa ab ac ad ae af ag:Nat}
variable [dr:Dr]

theorem ok_cmp_isNaN_string {q0:Str}{r:Bool}(hS:SH w K [] w K [])(a:q0.length≤maxLen)(hm:M.cmp_isNaN_string F q0=some r):
  Calls prog 155 #[sv q0] w (R_b w K r):=by
 rw [M.cmp_isNaN_string] at hm
 refine ci func155 u ntmps155 (sr (lv (r_f u) (nr (mv u (mv u (lv (rv_sneq u u) (av u (nq (wc_ret ?_)))))))))
 cases oi hm
 exact ey results155 ⟨K,u,hS⟩

theorem ok_cmp_Compare_string {q0:Str}{q1:Str}{r:Int}(hS:SH w K [] w K [])(m:q0.length≤maxLen)(o:q1.length≤maxLen)(hm:M.cmp_Compare_string F q0 q1=some r):
  Calls prog 78 #[sv q0,sv q1] w (R_i w K r):=by
 rw [M.cmp_Compare_string] at hm
 refine ci func78 u ntmps78 (sr (lv (r_0 u) (nr (mv u ?_))))
 obtain⟨J,q,s⟩:=ob hm
 refine lk co155 (ok_cmp_isNaN_string F hS.enter0 m q) ?_
 rintro O R ⟨S,rfl,x⟩
 have l:=(hS.c0 x).t0
 refine av u (nr (mv u ?_))
 obtain⟨T,y,A⟩:=ob s
 refine lk co155 (ok_cmp_isNaN_string F l.enter0 o y) ?_
 rintro U V ⟨a,rfl,B⟩
 have b:=(l.c0 B).t0
 refine av u (nsr (mv u (nq (wcc A u (fun C c=>?_) (fun C c=>?_)))))
 ·refine wc_seq (sr (mv u (nq (wcc c u (fun D d=>?_) (fun D d=>?_)))))
  ·refine sr (lv (r_0 u) (nq (rr (qe_then_ret ?_))))
   cases oi d
   exact ey results78 ⟨a,u,b,d_0⟩
  refine wc_skip (qr (lv (rv_assign (v:=V6 (-1)) u) (nq (rr ?_))))
  cases oi d
  exact ey results78 ⟨a,u,b,(by decide :rng64 (-1))⟩
 refine wc_skip (qs (sr (mv u (nq (wcc c u (fun G f=>?_) (fun G f=>?_))))))
 ·refine sr (lv (rv_assign (v:=V6 1) u) (nq (rr ?_)))
  cases oi f
  exact ey results78 ⟨a,u,b,(by decide :rng64 1)⟩
 refine wc_skip (qs (sr (mv u (mv u (lv (rv_slss u u) (nq (wcc f u (fun H i=>?_) (fun H i=>?_))))))))
 ·refine sr (lv (rv_assign (v:=V6 (-1)) u) (nq (rr ?_)))
  cases oi i
  exact ey results78 ⟨a,u,b,(by decide :rng64 (-1))⟩
 refine wc_skip (qs (sr (mv u (mv u (lv (rv_sgtr u u) (nq (wcc i u (fun I k=>?_) (fun I k=>?_))))))))
 ·refine sr (lv (rv_assign (v:=V6 1) u) (nq (rr ?_)))
  cases oi k
  exact ey results78 ⟨a,u,b,(by decide :rng64 1)⟩
 refine wc_skip (qr (lv (r_0 u) (nq (wc_ret ?_))))
 cases oi k
 exact ey results78 ⟨a,u,b,d_0⟩

theorem ok_impl_SegOf_1 {q0:GEntry}{q1:GEntry}{r:Int}(hS:SH w K [] w K [])(H:q0.Field.length≤maxLen)(I:q0.Term.length≤maxLen)(ah:SliceAt tGPost K A a b q0.Posts)(J:q1.Field.length≤maxLen)(O:q1.Term.length≤maxLen)(ai:SliceAt tGPost K B c d q1.Posts)(hm:M.impl_SegOf_1 F q0 q1=some r):
  Calls prog 76 #[.agg #[sv q0.Field,sv q0.Term,V3 A a b],.agg #[sv q1.Field,sv q1.Term,V3 B c d]] w (R_i w K r):=by
 rw [M.impl_SegOf_1] at hm
 refine ci func76 rfl ntmps76 (sr (bx rfl hS fun y aj R=>?_))
 have S:SH _ _ _ _ _ [obj y [sv q0.Field,sv q0.Term,V3 A a b] 116]:=R
 refine bx rfl S fun C ak T=>?_
 have U:SH _ _ _ _ _ [obj C [sv q1.Field,sv q1.Term,V3 B c d] 116,_]:=T
 refine lv (r_0 rfl) (ns ?_)
 have f:=U.drew
 refine j_0 (fun w'=>Holds K w'∧HasObj y [sv q0.Field,sv q0.Term,V3 A a b] w'∧HasObj C [sv q1.Field,sv q1.Term,V3 B c d] w') 13 [] mixed ⟨f.hasK kr,f.hasObj m1,f.hasObj m0⟩ (jv 0 rfl (rv_fieldAddr ff116_0 rfl) (jh 1 rfl (fun _ h=>rh_loadm1 tf9 rfl rfl h.2.1) (jv 2 rfl (rv_fieldAddr ff116_0 rfl) (jh 3 rfl (fun _ h=>rh_loadm1 tf9 rfl rfl h.2.2) (jv 5 rfl (rv_fieldAddr ff116_1 rfl) (jh 6 rfl (fun _ h=>rh_loadm1 tf9 rfl rfl h.2.1) (jv 7 rfl (rv_fieldAddr ff116_1 rfl) (jh 8 rfl (fun _ h=>rh_loadm1 tf9 rfl rfl h.2.2) (j1 4 rfl ?_)))))))))
 obtain⟨i,V,W⟩:=ob hm
 refine lk co78 (ok_cmp_Compare_string F f.enter0 H J V) ?_
 rintro al am ⟨an,rfl,k,X⟩
 have l:=(f.c0 k).t2
 refine j_o ⟨l.hasK k.le,l.hasObj m1,l.hasObj m0⟩ (j1 9 rfl ?_)
 obtain⟨m,Y,aa⟩:=ob W
 refine lk co78 (ok_cmp_Compare_string F l.enter0 I O Y) ?_
 rintro ao ap ⟨aq,rfl,q,ab⟩
 have s:=(l.c0 q).t2
 refine j_o ⟨s.hasK (k.le.trans q.le),s.hasObj m1,s.hasObj m0⟩ (j1 10 rfl (wl_buildSlice (t:=tInt) (n:=2) (pv:=[(0,V6 i),(1,V6 m)]) (cs:=[V6 i,V6 m]) (xs:=[i,m]) wn rfl underlying71 tf3 rfl rfl rfl (by kernel_rfl) rfl rfl (lit_cons (u:=V6 i) (z:=i) ⟨rfl,X⟩ (lit_cons (u:=V6 m) (z:=m) ⟨rfl,ab⟩ lit_nil)) s fun ar au aw D ac o=>(j_o ⟨o.hasK ((k.le.trans q.le).trans D),o.hasObj m2,o.hasObj m1⟩ (j1 11 rfl ?_))))
 obtain⟨ax,ad,ae⟩:=ob aa
 refine lk co77 (ok_cmp_Or_int F o.enter0 ac ad) ?_
 rintro ay az ⟨af,rfl,G,ag⟩
 have x:=(o.c0 G).t3
 refine j_o ⟨x.hasK (((k.le.trans q.le).trans D).trans G.le),x.hasObj m2,x.hasObj m1⟩ (jv 12 rfl (rv_assign rfl) (jd (qe_seq (wc_ret ?_))))
 cases oi ae
 exact ey results76 ⟨af,rfl,x.s,ag⟩

theorem ok_impl_SegOf {q0:GConf}{q1:List GDoc}{r:GSeg}(hS:SH w K [] w K [])(bH:SliceAt tStr K A a b q0.Stops)(bI:SliceAt tGSyn K B c d q0.Syns)(ay:SliceAt tGDoc K C f i q1)(hm:M.impl_SegOf F q0 q1=some r):
  Calls prog 21 #[.agg #[V3 A a b,V3 B c d],V3 C f i] w fun e w'=>∃a_1 n_2 c_3 a_5 n_6 c_7 K',e= .returned (.agg #[V3 a_1 n_2 c_3,V3 a_5 n_6 c_7])∧SH w K [] w' K' [tail (V3 a_5 n_6 c_7) 116 3]∧SliceAt tGDoc K' a_1 n_2 c_3 r.Docs∧SliceAt tGEntry K' a_5 n_6 c_7 r.Entries:=by
 rw [M.impl_SegOf] at hm
 refine ci func21 rfl ntmps21 (sr (bx rfl hS fun l eA bV=>?_))
 have bW:SH _ _ _ _ _ [obj l [V3 A a b,V3 B c d] 33]:=bV
 refine al tf46 bW fun k eB bX=>?_
 have bi:SH _ _ _ _ _ [obj k [V3 none 0 0,V3 none 0 0] 46,_]:=bX
 refine ns (wc_seq ?_)
 obtain⟨bY,bZ,ca⟩:=ob hm
 refine wc_cutg (IV w K [] K [(1,V3 C f i),(2,pt l),(4,pt k),(19,.bool bY)] [obj l [V3 A a b,V3 B c d] 33,obj k [V3 none 0 0,V3 none 0 0] 46]) ?_ ?_
 ·refine wc_region (lv (rv_loadmS (ds:=[V3 A a b,V3 B c d]) tf33 rfl m1 bi rfl rfl) ?_)
  obtain⟨eC,cb,cc⟩:=ob bZ
  refine lk co59 (ok_impl_ConfOk F bi.enter0 bH bI cb) ?_
  rintro eD eE ⟨cd,rfl,aK⟩
  have bj:=(bi.c0 aK).t2
  refine lv (rv_not rfl) (mv rfl (bt cc (fun o bk=>?_) (fun o bk=>?_)))
  ·refine lu o (lu o (lu o (lv (p_t rfl o rfl) (wl_nil ?_))))
   cases oi bk
   exact qd ⟨cd,rfl,bj.f1,aK.le⟩
  refine lg o (rv_move rfl) ?_
  obtain⟨eF,ce,cf⟩:=ob bk
  refine wl_call (wg rfl rfl o) rfl (rt_call (vs:=[V3 C f i]) co45 rfl) (ok_impl_DocsOk F bj.enter0 (ay.mono aK.le) ce) ?_
  rintro eG eH ⟨cg,rfl,bJ⟩
  refine⟨_,rfl,?_⟩
  have ch:=(bj.c0 bJ).t2
  refine lg o (rv_not rfl) (lv (rv_pick_f rfl o rfl) (wl_nil ?_))
  cases oi cf
  exact qd ⟨cg,rfl,ch.f1,(aK.le.trans bJ.le)⟩
 rintro _ eI ⟨cj,rfl,bl,S⟩
 refine qe_seq (wcc ca rfl (fun ck bm=>?_) (fun ck bm=>?_))
 ·refine sr (lv (rv_build (cs:=#[V3 none 0 0,V3 none 0 0]) sp46 tf46 rfl (by kernel_rfl)) (lw [V3 none 0 0,V3 none 0 0] tf46 bl.f1 fun eJ bK=>(nq (rr ?_))))
  cases oi bm
  have cl:=bK.nil 116 3
  exact ez results21 tf46 bK m0 ⟨none,0,0,none,0,0,cj,rfl,cl.s,(SliceAt.nil _ _),(SliceAt.nil _ _)⟩
 refine wc_skip (qr (mv rfl ?_))
 obtain⟨eK,cm,cn⟩:=ob bm
 refine lk co72 (ok_impl_cloneDocs F bl.enter0 (ay.mono S) cm) ?_
 rintro eL eM ⟨bn,bo,bp,eN,rfl,U,cp⟩
 have cq:=(bl.c0 U).t3
 refine b0 tGEntry underlying44 tf116 cq fun bq eO br V eP cr=>(lv (rv_build (cs:=#[V3 bn bo bp,V3 bq 0 0]) sp46 tf46 rfl (by kernel_rfl)) (al tf46 cr fun m eQ ct=>?_))
 have cu:SH _ _ _ _ _ [obj m [V3 none 0 0,V3 none 0 0] 46,_,_,_,_]:=ct
 refine lw [V3 bn bo bp,V3 bq 0 0] tf46 cu fun eR cv=>(nsr (mv rfl (lv (rv_len underlying43 rfl (ay.mono ((S.trans U.le).trans V))) (lv (r_m rfl) (nq ?_)))))
 obtain⟨bL,cw,cx⟩:=ob cn
 refine wc_cutg (fun E' w'=>∃X Y aa I J O lay94 aL,E'=[(4,pt k),(5,pt m)]∧SH w K [] w' aL [obj k [V3 none 0 0,V3 none 0 0] 46,obj m [V3 X Y aa,V3 I J O] 46,pack (segItems 116 134 3 I J O lay94)]∧KLe br aL∧SliceAt tGDoc aL X Y aa bL.Docs∧LayOk lay94 bL.Entries) ?_ ?_
 ·refine wc_block ?_
  obtain⟨eS,cy,cz⟩:=ob cw
  have cA:=seg_empty (TP:=134) (TI:=3) cv.f1
  have cB:=cA.f1.f4.f4.sb (sk (sk (sk (sk (sd sz)))))
  refine qF (fun (ab:Nat) (aM:GSeg) E' w'=>∃ac ad ae af ag ah lay112 q,E'=[(2,pt l),(4,pt k),(5,pt m),(25,V3 C f i),(26,V6 (q1.length:Int)),(27,V6 ((ab:Nat):Int))]∧SH w K [] w' q [obj l [V3 A a b,V3 B c d] 33,obj k [V3 none 0 0,V3 none 0 0] 46,obj m [V3 ac ad ae,V3 af ag ah] 46,pack (segItems 116 134 3 af ag ah lay112)]∧KLe br q∧SliceAt tGDoc q ac ad ae aM.Docs∧LayOk lay112 aM.Entries) cy ⟨bn,bo,bp,bq,0,0,[],br,rfl,cB,kr,(cp.mono V),⟨(fun _ h=>nomatch h),rfl⟩⟩ ?_ ?_
  ·rintro ab aM _ cC eT hi121 cD ⟨ac,ad,ae,af,ag,ah,lay112,q,rfl,aN,ai,bs,bu⟩
   refine sr (lv (rv_lss rfl rfl) (ns (wc_cond_t rfl (decide_eq_true (by omega)) (wc_skip (qe_seq (wc_seq (wc_block (sr ?_))))))))
   obtain⟨s,cE,cF⟩:=ob cD
   refine li underlying43 tf77 (SliceAt.mono (((S.trans U.le).trans V).trans ai) ay) cE fun cG cH eU cI cJ=>?_
   obtain⟨D,G,H,az,aA,aB,rfl,cK,bv,eV⟩:=cI
   have cL:AtK _ cG cH [V6 s.Id,V3 D G H,V3 az aA aB]:=cJ
   refine lv (rv_loadS tf77 rfl aN cL rfl) (al tf77 aN fun R eW cM=>?_)
   have cN:SH _ _ _ _ _ [obj R [V6 0,V3 none 0 0,V3 none 0 0] 77,_,_,_,_]:=cM
   refine lw [V6 s.Id,V3 D G H,V3 az aA aB] tf77 cN fun eX bM=>(nr (fl ff77_1 rfl tf74 m0 bM rfl (lv (rv_len underlying74 rfl bv) (lv (r_m rfl) (nq ?_)))))
   obtain⟨bN,cO,cP⟩:=ob cF
   refine wc_cutg (fun E' w'=>∃aO aP aQ aR aS aT lay162 aC,E'=[(2,pt l),(4,pt k),(5,pt m),(25,V3 C f i),(26,V6 (q1.length:Int)),(27,V6 ((ab:Nat):Int))]∧SH w K [] w' aC [obj l [V3 A a b,V3 B c d] 33,obj k [V3 none 0 0,V3 none 0 0] 46,obj m [V3 aO aP aQ,V3 aR aS aT] 46,pack (segItems 116 134 3 aR aS aT lay162)]∧KLe q aC∧SliceAt tGDoc aC aO aP aQ bN.Docs∧LayOk lay162 bN.Entries) ?_ ?_
   ·refine wc_block ?_
    obtain⟨eY,cQ,cR⟩:=ob cO
    refine qF (fun (aU:Nat) (aV:GSeg) E' w'=>∃aj ak am an ao ap lay180 aq,E'=[(2,pt l),(4,pt k),(5,pt m),(7,pt R),(25,V3 C f i),(26,V6 (q1.length:Int)),(27,V6 ((ab:Nat):Int)),(32,V3 D G H),(33,V6 (s.Fields.length:Int)),(34,V6 ((aU:Nat):Int))]∧SH w K [] w' aq [obj l [V3 A a b,V3 B c d] 33,obj k [V3 none 0 0,V3 none 0 0] 46,obj m [V3 aj ak am,V3 an ao ap] 46,pack (segItems 116 134 3 an ao ap lay180),obj R [V6 s.Id,V3 D G H,V3 az aA aB] 77]∧KLe q aq∧SliceAt tGDoc aq aj ak am aV.Docs∧LayOk lay180 aV.Entries) cQ ⟨ac,ad,ae,af,ag,ah,lay112,q,rfl,bM.f4.f4.f4.f4,kr,bs,bu⟩ ?_ ?_
    ·rintro aU aV _ cS eZ hi187 cT ⟨aj,ak,am,an,ao,ap,lay180,aq,rfl,aW,ar,bz,bA⟩
     refine sr (lv (rv_lss rfl rfl) (ns (wc_cond_t rfl (decide_eq_true (by omega)) (wc_skip (qe_seq (wc_seq (wc_block (sr ?_))))))))
     obtain⟨au,cU,cV⟩:=ob cT
     refine li underlying74 tf108 (bv.mono ar) cU fun cW cX fb cY cZ=>?_
     obtain⟨rfl,da,db⟩:=cY
     have dc:AtK _ cW cX [sv au.Name,sv au.Text]:=cZ
     refine lv (rv_loadS tf108 rfl aW dc rfl) (al tf108 aW fun bB fc dd=>?_)
     have de:SH _ _ _ _ _ [obj bB [sv [],sv []] 108,_,_,_,_,_]:=dd
     refine lw [sv au.Name,sv au.Text] tf108 de fun fd aX=>(nr (lv (rv_loadmS (ds:=[V3 A a b,V3 B c d]) tf33 rfl m1 aX rfl rfl) (fl ff108_1 rfl tf9 m0 aX rfl ?_)))
     obtain⟨df,dg,dh⟩:=ob cV
     refine lk co73 (ok_impl_TermsOf F aX.enter0 (SliceAt.mono ((((S.trans U.le).trans V).trans ai).trans ar) bH) (SliceAt.mono ((((S.trans U.le).trans V).trans ai).trans ar) bI) db dg) ?_
     rintro fe fg ⟨di,dj,dk,bC,rfl,bD,bE⟩
     have dl:=(aX.c0 bD).t7
     refine lv (rv_len underlying109 rfl bE) (lv (r_m rfl) (nq ?_))
     obtain⟨bO,dm,dn⟩:=ob dh
     refine wc_cutg (fun E' w'=>∃aY aZ ba bb bc bd lay233 aD,E'=[(2,pt l),(4,pt k),(5,pt m),(7,pt R),(25,V3 C f i),(26,V6 (q1.length:Int)),(27,V6 ((ab:Nat):Int)),(32,V3 D G H),(33,V6 (s.Fields.length:Int)),(34,V6 ((aU:Nat):Int))]∧SH w K [] w' aD [obj l [V3 A a b,V3 B c d] 33,obj k [V3 none 0 0,V3 none 0 0] 46,obj m [V3 aY aZ ba,V3 bb bc bd] 46,pack (segItems 116 134 3 bb bc bd lay233),obj R [V6 s.Id,V3 D G H,V3 az aA aB] 77]∧KLe bC aD∧SliceAt tGDoc aD aY aZ ba bO.Docs∧LayOk lay233 bO.Entries) ?_ ?_
     ·refine wc_block ?_
      obtain⟨fh,dp,dq⟩:=ob dm
      have dt:=dl.f1.f6.f6.f6.f6.f6.sb (sk (sk (sk (sk (sk (sk (sd sz)))))))
      refine qF (fun (bP:Nat) (be:GSeg) E' w'=>∃aE aF aG aH aI aJ lay251 aw,E'=[(2,pt l),(4,pt k),(5,pt m),(7,pt R),(9,pt bB),(25,V3 C f i),(26,V6 (q1.length:Int)),(27,V6 ((ab:Nat):Int)),(32,V3 D G H),(33,V6 (s.Fields.length:Int)),(34,V6 ((aU:Nat):Int)),(41,V3 di dj dk),(42,V6 (df.length:Int)),(43,V6 ((bP:Nat):Int))]∧SH w K [] w' aw [obj l [V3 A a b,V3 B c d] 33,obj k [V3 none 0 0,V3 none 0 0] 46,obj m [V3 aE aF aG,V3 aH aI aJ] 46,pack (segItems 116 134 3 aH aI aJ lay251),obj R [V6 s.Id,V3 D G H,V3 az aA aB] 77,obj bB [sv au.Name,sv au.Text] 108]∧KLe bC aw∧SliceAt tGDoc aw aE aF aG be.Docs∧LayOk lay251 be.Entries) dp ⟨aj,ak,am,an,ao,ap,lay180,bC,rfl,dt,kr,(bz.mono bD.le),bA⟩ ?_ ?_
      ·rintro bP be _ du fi hi261 dv ⟨aE,aF,aG,aH,aI,aJ,lay251,aw,rfl,bf,bg,bF,bG⟩
       refine sr (lv (rv_lss rfl rfl) (ns (wc_cond_t rfl (decide_eq_true (by omega)) (wc_skip (qe_seq (wc_seq (wc_block (sr ?_))))))))
       obtain⟨ax,dw,dx⟩:=ob dv
       refine li underlying109 tf112 (bE.mono bg) dw fun dy dz fj dA dB=>?_
       obtain⟨rfl,dC,dD⟩:=dA
       have dE:AtK _ dy dz [sv ax.Text,V6 ax.At]:=dB
       refine lv (rv_loadS tf112 rfl bf dE rfl) (al tf112 bf fun dF fk dG=>?_)
       have dH:SH _ _ _ _ _ [obj dF [sv [],V6 0] 112,_,_,_,_,_,_]:=dG
       refine lw [sv ax.Text,V6 ax.At] tf112 dH fun fm bh=>(nq (wc_region (fl ff108_0 rfl tf9 m6 bh rfl (lv (rv_loadmS (ds:=[sv ax.Text,V6 ax.At]) tf112 rfl m0 bh rfl rfl) (fl ff77_0 rfl tf3 m5 bh rfl ?_)))))
       obtain⟨fn,dI,dJ⟩:=ob dx
       have bQ:=bh.f4.f4
       refine lk co74 (ok_impl_Seg_put F bQ.e2 bF bG da dC dD cK dI) ?_
       rintro fo fp ⟨dK,dL,dM,dN,dO,dP,lay296,dQ,rfl,bR,dR,dS⟩
       have dT:=(bQ.c2 bR).t7
       refine nb (qg (lv (rv_add_to rfl rfl (w64_succ hi261 (SliceAt.max bE))) (mv rfl (wl_nil ?_))))
       cases oi dJ
       exact qd ⟨dK,dL,dM,dN,dO,dP,lay296,dQ,rfl,dT.f6.f6.f3.f3.f6.f6.s,(bg.trans bR.le),dR,dS⟩
      rintro be _ du dU ⟨aE,aF,aG,aH,aI,aJ,lay251,aw,rfl,bf,bg,bF,bG⟩
      subst dU
      refine sr (lv (rv_lss rfl rfl) (ns (wc_cond_f rfl (decide_eq_false (by omega)) (wc_exit (qe_then_exit (qe_then_exit (qe_block_eq ?_)))))))
      cases oi dq
      exact qd ⟨aE,aF,aG,aH,aI,aJ,lay251,aw,rfl,bf.s,bg,bF,bG⟩
     rintro _ fq ⟨aY,aZ,ba,bb,bc,bd,lay233,aD,rfl,dV,dW,dX,dY⟩
     refine qe_block (qg (lv (rv_add_to rfl rfl (w64_succ hi187 (SliceAt.max bv))) (mv rfl (wl_nil ?_))))
     cases oi dn
     exact qd ⟨aY,aZ,ba,bb,bc,bd,lay233,aD,rfl,dV,((ar.trans bD.le).trans dW),dX,dY⟩
    rintro aV _ cS dZ ⟨aj,ak,am,an,ao,ap,lay180,aq,rfl,aW,ar,bz,bA⟩
    subst dZ
    refine sr (lv (rv_lss rfl rfl) (ns (wc_cond_f rfl (decide_eq_false (by omega)) (wc_exit (qe_then_exit (qe_then_exit (qe_block_eq ?_)))))))
    cases oi cR
    exact qd ⟨aj,ak,am,an,ao,ap,lay180,aq,rfl,aW.s,ar,bz,bA⟩
   rintro _ fr ⟨aO,aP,aQ,aR,aS,aT,lay162,aC,rfl,ea,eb,ec,ed⟩
   refine qe_block (qg (lv (rv_add_to rfl rfl (w64_succ hi121 (SliceAt.max (ay.mono ((S.trans U.le).trans V))))) (mv rfl (wl_nil ?_))))
   cases oi cP
   exact qd ⟨aO,aP,aQ,aR,aS,aT,lay162,aC,rfl,ea,(ai.trans eb),ec,ed⟩
  rintro aM _ cC ee ⟨ac,ad,ae,af,ag,ah,lay112,q,rfl,aN,ai,bs,bu⟩
  subst ee
  refine sr (lv (rv_lss rfl rfl) (ns (wc_cond_f rfl (decide_eq_false (by omega)) (wc_exit (qe_then_exit (qe_then_exit (qe_block_eq ?_)))))))
  cases oi cz
  exact qd ⟨ac,ad,ae,af,ag,ah,lay112,q,rfl,aN.s,ai,bs,bu⟩
 rintro _ fs ⟨X,Y,aa,I,J,O,lay94,aL,rfl,bS,ft,ef,eg⟩
 refine qr (fl ff46_1 rfl tf44 m1 bS rfl ?_)
 obtain⟨fu,cs315,eh,hrow317,hm318,ei⟩:=seg_see bS.f2 eg
 obtain⟨fv,ej,ek⟩:=ob cx
 refine wl_call wn rfl (rt_call (vs:=[V3 I J O,.func (.func 76) #[] #[]]) co75 rfl) (sort_rowI (T:=tGEntry) sortLay75 sortNone75 rfl (fun w=>Go.Fk.run_isAgg tf116 w) (fun w=>Go.Fk.run_sizeOf tf116 w) (fun a b=>M.impl_SegOf_1 F a b) 76 (Go.Proofs.enters_of func76 (by kernel_rfl) rfl) ei hrow317 hm318 (fun K1 W v x u y r hW h1 h2 hm=>by
  obtain⟨fx,fy,fz,rfl,en,eo,ep⟩:=h1
  obtain⟨fA,fB,fC,rfl,eq,es,et⟩:=h2
  exact(ok_impl_SegOf_1 (dr:=⟨True⟩) F (SH.start (dr:=⟨True⟩) hW) en eo ep eq es et hm).mono fun e w' ⟨K',he,hS',_⟩=>⟨K',he,hS'⟩) ej) ?_
 rintro fD fE ⟨cs335,rfl,bT,hrow337,hm338⟩
 refine⟨_,rfl,?_⟩
 refine nr (lv (rv_loadmS (ds:=[V3 X Y aa,V3 I J O]) tf46 rfl m2 bT rfl rfl) (lw [V3 X Y aa,V3 I J O] tf46 bT.f1 fun fF eu=>(nq (wc_ret ?_))))
 obtain⟨ev,ew,ex,bU⟩:=SH.freezeI eu.f1 hrow337 hm338
 cases oi ek
 exact ez results21 tf46 bU m1 ⟨X,Y,aa,I,J,O,ev,rfl,bU.s,(ef.mono (eh.trans ew)),ex⟩

theorem ok_slices_Equal_int {q0:List Int}{q1:List Int}{r:Bool}(hS:SH w K [] w K [])(i:SliceAt tInt K A a b q0)(s:SliceAt tInt K B c d q1)(hm:M.slices_Equal_int F q0 q1=some r):
  Calls prog 246 #[V3 A a b,V3 B c d] w (R_b w K r):=by
 rw [M.slices_Equal_int] at hm
 refine ci func246 u ntmps246 (sr (lv (r_f u) (nsr (mv u (lv (rv_len underlying71 u i) (mv u (lv (rv_len underlying71 u s) (lv (rv_neq u u) (nq ?_)))))))))
 refine wc_cond u (fun l=>?_) (fun l=>?_)
 ·have m:=cond_t l hm
  refine sr (lv (r_f u) (nq (rr ?_)))
  cases oi m
  exact ey results246 ⟨K,u,hS⟩
 have m:=cond_f l hm
 refine wc_skip (qs (sr (mv u (lv (rv_len underlying71 u i) (lv (r_m u) (nq ?_))))))
 obtain⟨I,J,k⟩:=ob m
 refine wc_cutg (IE I w K [] K [] []) ?_ ?_
 ·refine wc_block ?_
  obtain⟨aq,O,x⟩:=ob J
  refine qf (fun (y:Nat) (C:Unit)=>IV w K [] K [(0,V3 A a b),(1,V3 B c d),(12,V6 (q0.length:Int)),(13,V6 ((y:Nat):Int))] []) O ⟨K,u,hS,kr⟩ ?_ ?_
  ·rintro y C _ R ar hi29 S T ⟨D,rfl,o,f⟩
   refine sr (lv (rv_lss u u) (ns (wc_cond_t u (decide_eq_true (by omega)) (wc_skip (qe_seq (wc_seq (wc_block (sr (mv u (av u (ns (wc_quiet mixed (by kernel_rfl) o ?_))))))))))))
   refine km u (km u ?_)
   obtain⟨U,V,W⟩:=ob S
   refine ki underlying71 tf3 (i.mono f) V fun X Y au aa ab=>?_
   obtain⟨rfl,aw⟩:=aa
   have ac:AtK _ X Y [V6 U]:=ab
   refine kh (rq_load1 tf3 u (ac 0 _ u)) (km u (km u ?_))
   obtain⟨ad,ae,af⟩:=ob W
   refine ki underlying71 tf3 (s.mono f) ae fun ag ah ax ai aj=>?_
   obtain⟨rfl,ay⟩:=ai
   have ak:AtK _ ag ah [V6 ad]:=aj
   refine kh (rq_load1 tf3 u (ak 0 _ u)) (kv (rv_neq u u) (wq_nil ?_))
   rintro az ⟨G,H,al⟩
   refine qe_seq (wcc af u (fun am q=>?_) (fun am q=>?_))
   ·refine sr (lv (r_f u) (nq (wc_ret (qe_block_ret (qe_then_ret (qe_then_ret ?_))))))
    cases oi q
    cases T _ u
    refine qe_block_ret (qe_then_ret ?_)
    cases oi x
    refine qe_then_ret ?_
    cases oi k
    exact ey results246 ⟨G,u,H⟩
   refine wc_skip (qe_block (qg (lv (rv_add_to u u (w64_succ hi29 (SliceAt.max i))) (mv u (wl_nil ?_)))))
   cases oi q
   exact qd ⟨_,u,G,u,H,(f.trans al)⟩
  rintro C _ R an ⟨D,rfl,o,f⟩
  subst an
  refine sr (lv (rv_lss u u) (ns (wc_cond_f u (decide_eq_false (by omega)) (wc_exit (qe_then_exit (qe_then_exit (qe_block_eq ?_)))))))
  cases oi x
  exact qe_mid' ⟨_,D,u,u,o,f⟩ trivial
 rintro _ aA ⟨aB,ao,rfl,rfl,ap,aC⟩
 have k:=elim_l k
 refine qr (lv (r_t u) (nq (wc_ret ?_)))
 cases oi k
 exact ey results246 ⟨ao,u,ap⟩

theorem ok_impl_samePost {q0:GPost}{q1:GPost}{r:Bool}(hS:SH w K [] w K [])(J:rng64 q0.Doc)(l:SliceAt tInt K A a b q0.At)(O:rng64 q1.Doc)(m:SliceAt tInt K B c d q1.At)(hm:M.impl_samePost F q0 q1=some r):
  Calls prog 218 #[.agg #[V6 q0.Doc,V3 A a b],.agg #[V6 q1.Doc,V3 B c d]] w (R_b w K r):=by
 rw [M.impl_samePost] at hm
 refine ci func218 u ntmps218 (sr (bx u hS fun o R q=>?_))
 have s:SH _ _ _ _ _ [obj o [V6 q0.Doc,V3 A a b] 134]:=q
 refine bx u s fun x S y=>?_
 have i:SH _ _ _ _ _ [obj x [V6 q1.Doc,V3 B c d] 134,_]:=y
 refine lv (r_f u) (nr (fl ff134_0 u tf3 m1 i u (fl ff134_0 u tf3 m0 i u (lv (rv_eql u u) (mv u (bt hm (fun f k=>?_) (fun f k=>?_)))))))
 ·refine lg f (rv_fieldAddr ff134_1 u) (lg f (rv_loadm1 tf71 u m1 i u) (lg f (rv_fieldAddr ff134_1 u) (lg f (rv_loadm1 tf71 u m0 i u) ?_)))
  obtain⟨T,C,D⟩:=ob k
  refine wl_call (wg u u f) u (rt_call (vs:=[V3 A a b,V3 B c d]) co246 u) (ok_slices_Equal_int F i.enter0 l m C) ?_
  rintro U V ⟨G,rfl,H⟩
  refine⟨_,u,?_⟩
  have I:=(i.c0 H).t2
  refine lv (rv_pick_t u f u) (av u (nq (wc_ret ?_)))
  cases oi D
  exact ey results218 ⟨G,u,I.s⟩
 iterate 5 refine lu f ?_
 refine lv (p_f u f u) (av u (nq (wc_ret ?_)))
 cases oi k
 exact ey results218 ⟨K,u,i.s⟩

theorem ok_slices_EqualFunc_Post__impl_samePost {q0:List GPost}{q1:List GPost}{r:Bool}(hS:SH w K [] w K [])(i:SliceAt tGPost K A a b q0)(O:SliceAt tGPost K B c d q1)(hm:M.slices_EqualFunc_Post__impl_samePost F q0 q1=some r):
  Calls prog 217 #[V3 A a b,V3 B c d,.func (.func 218) #[] #[]] w (R_b w K r):=by
 rw [M.slices_EqualFunc_Post__impl_samePost] at hm
 refine ci func217 u ntmps217 (sr (lv (r_f u) (nsr (mv u (lv (rv_len underlying61 u i) (mv u (lv (rv_len underlying61 u O) (lv (rv_neq u u) (nq ?_)))))))))
 refine wc_cond u (fun H=>?_) (fun H=>?_)
 ·have I:=cond_t H hm
  refine sr (lv (r_f u) (nq (rr ?_)))
  cases oi I
  exact ey results217 ⟨K,u,hS⟩
 have I:=cond_f H hm
 refine wc_skip (qs (sr (mv u (lv (rv_len underlying61 u i) (lv (r_m u) (nq ?_))))))
 obtain⟨aa,ab,k⟩:=ob I
 refine wc_cutg (IE aa w K [] K [] []) ?_ ?_
 ·refine wc_block ?_
  obtain⟨aO,ac,R⟩:=ob ab
  refine qf (fun (S:Nat) (T:Unit)=>IV w K [] K [(1,V3 B c d),(2,.func (.func 218) #[] #[]),(15,V3 A a b),(16,V6 (q0.length:Int)),(17,V6 ((S:Nat):Int))] []) ac ⟨K,u,hS,kr⟩ ?_ ?_
  ·rintro S T _ ad aP hi29 ae af ⟨U,rfl,l,f⟩
   refine sr (lv (rv_lss u u) (ns (wc_cond_t u (decide_eq_true (by omega)) (wc_skip (qe_seq (wc_seq (wc_block (sr (mv u ?_)))))))))
   obtain⟨m,ag,ah⟩:=ob ae
   refine li underlying61 tf134 (i.mono f) ag fun ai aj aQ ak am=>?_
   obtain⟨o,q,s,rfl,an,ao⟩:=ak
   have ap:AtK _ ai aj [V6 m.Doc,V3 o q s]:=am
   refine lv (rv_loadS tf134 u l ap u) (al tf134 l fun aq aR ar=>?_)
   have au:SH _ _ _ _ _ [obj aq [V6 0,V3 none 0 0] 134]:=ar
   refine av u (lw [V6 m.Doc,V3 o q s] tf134 au fun aS V=>(nr (mv u (mv u ?_))))
   obtain⟨x,aw,ax⟩:=ob ah
   refine li underlying61 tf134 (O.mono f) aw fun ay az aT aA aB=>?_
   obtain⟨y,C,D,rfl,aC,aD⟩:=aA
   have aE:AtK _ ay az [V6 x.Doc,V3 y C D]:=aB
   refine lv (rv_loadS tf134 u V aE u) (al tf134 V fun aF aU aG=>?_)
   have aH:SH _ _ _ _ _ [obj aF [V6 0,V3 none 0 0] 134,_]:=aG
   refine lw [V6 x.Doc,V3 y C D] tf134 aH fun aV G=>(nr (mv u (lv (rv_loadmS (ds:=[V6 m.Doc,V3 o q s]) tf134 u m1 G u u) (lv (rv_loadmS (ds:=[V6 x.Doc,V3 y C D]) tf134 u m0 G u u) ?_))))
   obtain⟨aW,aI,aJ⟩:=ob ax
   refine wl_call wn u (rt_callv (vs:=[.agg #[V6 m.Doc,V3 o q s],.agg #[V6 x.Doc,V3 y C D]]) (cap:=#[]) co218 u u) (ok_impl_samePost F G.enter0 an ao aC aD aI) ?_
   rintro aX aY ⟨W,rfl,X⟩
   refine⟨_,u,?_⟩
   have Y:=(G.c0 X).t2
   refine lv (rv_not u) (nq (wcc aJ u (fun aK J=>?_) (fun aK J=>?_)))
   ·refine sr (lv (r_f u) (nq (wc_ret (qe_block_ret (qe_then_ret (qe_then_ret ?_))))))
    cases oi J
    cases af _ u
    refine qe_block_ret (qe_then_ret ?_)
    cases oi R
    refine qe_then_ret ?_
    cases oi k
    exact ey results217 ⟨W,u,Y.s⟩
   refine wc_skip (qe_block (qg (lv (rv_add_to u u (w64_succ hi29 (SliceAt.max i))) (mv u (wl_nil ?_)))))
   cases oi J
   exact qd ⟨_,u,W,u,Y.s,(f.trans X.le)⟩
  rintro T _ ad aL ⟨U,rfl,l,f⟩
  subst aL
  refine sr (lv (rv_lss u u) (ns (wc_cond_f u (decide_eq_false (by omega)) (wc_exit (qe_then_exit (qe_then_exit (qe_block_eq ?_)))))))
  cases oi R
  exact qe_mid' ⟨_,U,u,u,l,f⟩ trivial
 rintro _ aZ ⟨ba,aM,rfl,rfl,aN,bb⟩
 have k:=elim_l k
 refine qr (lv (r_t u) (nq (wc_ret ?_)))
 cases oi k
 exact ey results217 ⟨aM,u,aN⟩

theorem ok_impl_sameEntry {q0:GEntry}{q1:GEntry}{r:Bool}(hS:SH w K [] w K [])(R:q0.Field.length≤maxLen)(S:q0.Term.length≤maxLen)(o:SliceAt tGPost K A a b q0.Posts)(T:q1.Field.length≤maxLen)(U:q1.Term.length≤maxLen)(q:SliceAt tGPost K B c d q1.Posts)(hm:M.impl_sameEntry F q0 q1=some r):
  Calls prog 165 #[.agg #[sv q0.Field,sv q0.Term,V3 A a b],.agg #[sv q1.Field,sv q1.Term,V3 B c d]] w (R_b w K r):=by
 rw [M.impl_sameEntry] at hm
 refine ci func165 u ntmps165 (sr (bx u hS fun s V x=>?_))
 have y:SH _ _ _ _ _ [obj s [sv q0.Field,sv q0.Term,V3 A a b] 116]:=x
 refine bx u y fun C W D=>?_
 have f:SH _ _ _ _ _ [obj C [sv q1.Field,sv q1.Term,V3 B c d] 116,_]:=D
 refine lv (r_f u) (nr (fl ff116_0 u tf9 m1 f u (fl ff116_0 u tf9 m0 f u (lv (rv_seql u u) (mv u (bt hm (fun i l=>?_) (fun i l=>?_)))))))
 ·refine lg i (rv_fieldAddr ff116_1 u) (lg i (rv_loadm1 tf9 u m1 f u) (lg i (rv_fieldAddr ff116_1 u) (lg i (rv_loadm1 tf9 u m0 f u) (lg i (rv_seql u u) (lv (rv_pick_t u i u) (mv u (bt l (fun k m=>?_) (fun k m=>?_))))))))
  ·refine lg k (rv_fieldAddr ff116_2 u) (lg k (rv_loadm1 tf61 u m1 f u) (lg k (rv_fieldAddr ff116_2 u) (lg k (rv_loadm1 tf61 u m0 f u) ?_)))
   obtain⟨X,G,H⟩:=ob m
   refine wl_call (wg u u k) u (rt_call (vs:=[V3 A a b,V3 B c d,.func (.func 218) #[] #[]]) co217 u) (ok_slices_EqualFunc_Post__impl_samePost F f.enter0 o q G) ?_
   rintro Y aa ⟨I,rfl,J⟩
   refine⟨_,u,?_⟩
   have O:=(f.c0 J).t2
   refine lv (rv_pick_t u k u) (av u (nq (wc_ret ?_)))
   cases oi H
   exact ey results165 ⟨I,u,O.s⟩
  iterate 5 refine lu k ?_
  refine lv (p_f u k u) (av u (nq (wc_ret ?_)))
  cases oi m
  exact ey results165 ⟨K,u,f.s⟩
 iterate 5 refine lu i ?_
 refine lv (p_f u i u) (mv u ?_)
 iterate 5 refine lu u ?_
 refine lv (p_f u u u) (av u (nq (wc_ret ?_)))
 cases oi l
 exact ey results165 ⟨K,u,f.s⟩

theorem ok_slices_EqualFunc_Entry__impl_sameEntry {q0:List GEntry}{q1:List GEntry}{r:Bool}(hS:SH w K [] w K [])(l:SliceAt tGEntry K A a b q0)(O:SliceAt tGEntry K B c d q1)(hm:M.slices_EqualFunc_Entry__impl_sameEntry F q0 q1=some r):
  Calls prog 164 #[V3 A a b,V3 B c d,.func (.func 165) #[] #[]] w (R_b w K r):=by
 rw [M.slices_EqualFunc_Entry__impl_sameEntry] at hm
 refine ci func164 u ntmps164 (sr (lv (r_f u) (nsr (mv u (lv (rv_len underlying44 u l) (mv u (lv (rv_len underlying44 u O) (lv (rv_neq u u) (nq ?_)))))))))
 refine wc_cond u (fun H=>?_) (fun H=>?_)
 ·have I:=cond_t H hm
  refine sr (lv (r_f u) (nq (rr ?_)))
  cases oi I
  exact ey results164 ⟨K,u,hS⟩
 have I:=cond_f H hm
 refine wc_skip (qs (sr (mv u (lv (rv_len underlying44 u l) (lv (r_m u) (nq ?_))))))
 obtain⟨aa,ab,m⟩:=ob I
 refine wc_cutg (IE aa w K [] K [] []) ?_ ?_
 ·refine wc_block ?_
  obtain⟨aQ,ac,R⟩:=ob ab
  refine qf (fun (S:Nat) (T:Unit)=>IV w K [] K [(1,V3 B c d),(2,.func (.func 165) #[] #[]),(15,V3 A a b),(16,V6 (q0.length:Int)),(17,V6 ((S:Nat):Int))] []) ac ⟨K,u,hS,kr⟩ ?_ ?_
  ·rintro S T _ ad aR hi29 ae af ⟨U,rfl,o,k⟩
   refine sr (lv (rv_lss u u) (ns (wc_cond_t u (decide_eq_true (by omega)) (wc_skip (qe_seq (wc_seq (wc_block (sr (mv u ?_)))))))))
   obtain⟨f,ag,ah⟩:=ob ae
   refine li underlying44 tf116 (l.mono k) ag fun ai aj aS ak am=>?_
   obtain⟨q,s,x,rfl,an,ao,ap⟩:=ak
   have aq:AtK _ ai aj [sv f.Field,sv f.Term,V3 q s x]:=am
   refine lv (rv_loadS tf116 u o aq u) (al tf116 o fun ar aT au=>?_)
   have aw:SH _ _ _ _ _ [obj ar [sv [],sv [],V3 none 0 0] 116]:=au
   refine av u (lw [sv f.Field,sv f.Term,V3 q s x] tf116 aw fun aU V=>(nr (mv u (mv u ?_))))
   obtain⟨i,ax,ay⟩:=ob ah
   refine li underlying44 tf116 (O.mono k) ax fun az aA aV aB aC=>?_
   obtain⟨y,C,D,rfl,aD,aE,aF⟩:=aB
   have aG:AtK _ az aA [sv i.Field,sv i.Term,V3 y C D]:=aC
   refine lv (rv_loadS tf116 u V aG u) (al tf116 V fun aH aW aI=>?_)
   have aJ:SH _ _ _ _ _ [obj aH [sv [],sv [],V3 none 0 0] 116,_]:=aI
   refine lw [sv i.Field,sv i.Term,V3 y C D] tf116 aJ fun aX G=>(nr (mv u (lv (rv_loadmS (ds:=[sv f.Field,sv f.Term,V3 q s x]) tf116 u m1 G u u) (lv (rv_loadmS (ds:=[sv i.Field,sv i.Term,V3 y C D]) tf116 u m0 G u u) ?_))))
   obtain⟨aY,aK,aL⟩:=ob ay
   refine wl_call wn u (rt_callv (vs:=[.agg #[sv f.Field,sv f.Term,V3 q s x],.agg #[sv i.Field,sv i.Term,V3 y C D]]) (cap:=#[]) co165 u u) (ok_impl_sameEntry F G.enter0 an ao ap aD aE aF aK) ?_
   rintro aZ ba ⟨W,rfl,X⟩
   refine⟨_,u,?_⟩
   have Y:=(G.c0 X).t2
   refine lv (rv_not u) (nq (wcc aL u (fun aM J=>?_) (fun aM J=>?_)))
   ·refine sr (lv (r_f u) (nq (wc_ret (qe_block_ret (qe_then_ret (qe_then_ret ?_))))))
    cases oi J
    cases af _ u
    refine qe_block_ret (qe_then_ret ?_)
    cases oi R
    refine qe_then_ret ?_
    cases oi m
    exact ey results164 ⟨W,u,Y.s⟩
   refine wc_skip (qe_block (qg (lv (rv_add_to u u (w64_succ hi29 (SliceAt.max l))) (mv u (wl_nil ?_)))))
   cases oi J
   exact qd ⟨_,u,W,u,Y.s,(k.trans X.le)⟩
  rintro T _ ad aN ⟨U,rfl,o,k⟩
  subst aN
  refine sr (lv (rv_lss u u) (ns (wc_cond_f u (decide_eq_false (by omega)) (wc_exit (qe_then_exit (qe_then_exit (qe_block_eq ?_)))))))
  cases oi R
  exact qe_mid' ⟨_,U,u,u,o,k⟩ trivial
 rintro _ bb ⟨bc,aO,rfl,rfl,aP,bd⟩
 have m:=elim_l m
 refine qr (lv (r_t u) (nq (wc_ret ?_)))
 cases oi m
 exact ey results164 ⟨aO,u,aP⟩

theorem ok_impl_SegOk {q0:GConf}{q1:GSeg}{r:Bool}(hS:SH w K [] w K [])(T:SliceAt tStr K A a b q0.Stops)(U:SliceAt tGSyn K B c d q0.Syns)(V:SliceAt tGDoc K C f i q1.Docs)(ab:SliceAt tGEntry K D k l q1.Entries)(hm:M.impl_SegOk F q0 q1=some r):
  Calls prog 94 #[.agg #[V3 A a b,V3 B c d],.agg #[V3 C f i,V3 D k l]] w (R_b w K r):=by
 rw [M.impl_SegOk] at hm
 refine ci func94 u ntmps94 (sr (bx u hS fun s az ac=>?_))
 have ad:SH _ _ _ _ _ [obj s [V3 A a b,V3 B c d] 33]:=ac
 refine bx u ad fun x aA ae=>?_
 have O:SH _ _ _ _ _ [obj x [V3 C f i,V3 D k l] 46,_]:=ae
 refine lv (r_f u) (ns (wc_seq ?_))
 obtain⟨af,ag,ah⟩:=ob hm
 refine wc_cutg (IV w K [] K [(2,pt s),(3,pt x),(13,.bool af)] [obj s [V3 A a b,V3 B c d] 33,obj x [V3 C f i,V3 D k l] 46]) ?_ ?_
 ·refine wc_region (lv (rv_loadmS (ds:=[V3 A a b,V3 B c d]) tf33 u m1 O u u) ?_)
  obtain⟨aB,ai,aj⟩:=ob ag
  refine lk co59 (ok_impl_ConfOk F O.enter0 T U ai) ?_
  rintro aC aD ⟨ak,rfl,y⟩
  have G:=(O.c0 y).t2
  refine lv (rv_not u) (mv u (bt aj (fun m R=>?_) (fun m R=>?_)))
  ·refine lu m (lu m (lu m (lu m (lv (p_t u m u) (wl_nil ?_)))))
   cases oi R
   exact qd ⟨ak,u,G.f1,y.le⟩
  refine lg m (rv_fieldAddr ff46_0 u) (lg m (rv_loadm1 tf43 u m0 G u) ?_)
  obtain⟨aE,al,am⟩:=ob R
  refine wl_call (wg u u m) u (rt_call (vs:=[V3 C f i]) co45 u) (ok_impl_DocsOk F G.enter0 (V.mono y.le) al) ?_
  rintro aF aG ⟨an,rfl,W⟩
  refine⟨_,u,?_⟩
  have ao:=(G.c0 W).t2
  refine lg m (rv_not u) (lv (rv_pick_f u m u) (wl_nil ?_))
  cases oi am
  exact qd ⟨an,u,ao.f1,(y.le.trans W.le)⟩
 rintro _ aH ⟨X,rfl,Y,H⟩
 refine qe_seq (wcc ah u (fun ap S=>?_) (fun ap S=>?_))
 ·refine sr (lv (r_f u) (nq (rr ?_)))
  cases oi S
  exact ey results94 ⟨X,u,Y.s⟩
 refine wc_skip (qs ?_)
 have o:=Y.drew
 refine j_0 (fun w'=>Holds X w'∧HasObj s [V3 A a b,V3 B c d] w'∧HasObj x [V3 C f i,V3 D k l] w') 9 [] mixed ⟨o.hasK kr,o.hasObj m0,o.hasObj m1⟩ (jh 0 u (fun _ h=>rh_loadmS (ds:=[V3 A a b,V3 B c d]) tf33 u u u h.2.1) (jv 1 u (rv_fieldAddr ff46_0 u) (jh 2 u (fun _ h=>rh_loadm1 tf43 u u h.2.2) (jv 5 u (rv_fieldAddr ff46_1 u) (jh 6 u (fun _ h=>rh_loadm1 tf44 u u h.2.2) (j1 3 u ?_))))))
 obtain⟨aI,aq,ar⟩:=ob S
 refine lk co21 (ok_impl_SegOf F o.enter0 (T.mono H) (U.mono H) (V.mono H) aq) ?_
 rintro aJ aK ⟨aL,aM,aN,aO,aP,aQ,aR,rfl,I,aS,au⟩
 have q:=(o.c0 I).t3
 refine j_o ⟨q.hasK I.le,q.hasObj m1,q.hasObj m2⟩ (jv 4 u (rv_field fg46_1 tf44 u (.inl ⟨u,u⟩)) (j1 7 u ?_))
 obtain⟨aT,aw,ax⟩:=ob ar
 refine lk co164 (ok_slices_EqualFunc_Entry__impl_sameEntry F q.enter0 au (ab.mono (H.trans I.le)) aw) ?_
 rintro aU aV ⟨ay,rfl,aa⟩
 have J:=(q.c0 aa).t3
 refine j_o ⟨J.hasK (I.le.trans aa.le),J.hasObj m1,J.hasObj m2⟩ (jv 8 u (rv_assign u) (jd (qe_seq (wc_ret ?_))))
 cases oi ax
 exact ey results94 ⟨ay,u,J.s⟩

theorem ok_impl_Seg_posts {q0:GSeg}{q1:Str}{q2:Str}{r:(List GPost)}(hS:SH w K Z w K [obj g1 [V3 A a b,V3 B c d] 46])(aw:SliceAt tGDoc K A a b q0.Docs)(C:SliceAt tGEntry K B c d q0.Entries)(ax:q1.length≤maxLen)(ay:q2.length≤maxLen)(hm:M.impl_Seg_posts F q0 q1 q2=some r):
  Calls prog 95 #[.pointer (some ⟨g1,0,none⟩),sv q1,sv q2] w fun e w'=>∃a_1 n_2 c_3 K',e= .returned (V3 a_1 n_2 c_3)∧SH w K Z w' K' [obj g1 [V3 A a b,V3 B c d] 46]∧SliceAt tGPost K' a_1 n_2 c_3 r:=by
 rw [M.impl_Seg_posts] at hm
 refine ci func95 u ntmps95 (sr (lv (r_n u) (nsr (mv u (lv (rv_nilCheck u) (fl ff46_1 u tf44 m0 hS u (lv (rv_len underlying44 u C) (lv (r_m u) (nq ?_)))))))))
 obtain⟨U,V,l⟩:=ob hm
 refine wc_cutg (IE U w K Z K [(0,pt g1)] [obj g1 [V3 A a b,V3 B c d] 46]) ?_ ?_
 ·refine wc_block ?_
  obtain⟨az,W,O⟩:=ob V
  refine qf (fun (D:Nat) (R:Unit)=>IV w K Z K [(0,pt g1),(1,sv q1),(2,sv q2),(12,V3 B c d),(13,V6 (q0.Entries.length:Int)),(14,V6 ((D:Nat):Int))] [obj g1 [V3 A a b,V3 B c d] 46]) W ⟨K,u,hS,kr⟩ ?_ ?_
  ·rintro D R _ X aA hi30 Y aa ⟨k,rfl,m,o⟩
   refine sr (lv (rv_lss u u) (ns (wc_cond_t u (decide_eq_true (by omega)) (wc_skip (qe_seq (wc_seq (wc_block (sr ?_))))))))
   obtain⟨i,ab,ac⟩:=ob Y
   refine li underlying44 tf116 (C.mono o) ab fun ad ae aB af ag=>?_
   obtain⟨q,s,x,rfl,aC,aD,ah⟩:=af
   have ai:AtK _ ad ae [sv i.Field,sv i.Term,V3 q s x]:=ag
   refine lv (rv_loadS tf116 u m ai u) (al tf116 m fun G aE aj=>?_)
   have ak:SH _ _ _ _ _ [obj G [sv [],sv [],V3 none 0 0] 116,_]:=aj
   refine lw [sv i.Field,sv i.Term,V3 q s x] tf116 ak fun aF y=>(ns ?_)
   obtain⟨am,an,ao⟩:=ob ac
   refine wc_cutg (IV w K Z k [(0,pt g1),(1,sv q1),(2,sv q2),(8,pt G),(12,V3 B c d),(13,V6 (q0.Entries.length:Int)),(14,V6 ((D:Nat):Int)),(27,.bool am)] [obj g1 [V3 A a b,V3 B c d] 46,obj G [sv i.Field,sv i.Term,V3 q s x] 116]) ?_ ?_
   ·refine wc_region (fl ff116_0 u tf9 m0 y u (mv u (lv (rv_seql u u) (mv u (bt an (fun f H=>?_) (fun f H=>?_))))))
    ·refine lg f (rv_fieldAddr ff116_1 u) (lg f (rv_loadm1 tf9 u m0 y u) (lg f (rv_move u) (lg f (rv_seql u u) (lv (rv_pick_t u f u) (wl_nil ?_)))))
     cases oi H
     exact qd ⟨k,u,y.f1,kr⟩
    refine lu f (lu f (lu f (lu f (lv (p_f u f u) (wl_nil ?_)))))
    cases oi H
    exact qd ⟨k,u,y.f1,kr⟩
   rintro _ aG ⟨S,rfl,I,T⟩
   refine qe_seq (wcc ao u (fun ap J=>?_) (fun ap J=>?_))
   ·refine sr (fl ff116_2 u tf61 m1 I u (av u (nq (wc_ret (qe_block_ret (qe_then_ret (qe_then_ret ?_)))))))
    cases oi J
    cases aa _ u
    refine qe_block_ret (qe_then_ret ?_)
    cases oi O
    refine qe_then_ret ?_
    cases oi l
    exact ey results95 ⟨q,s,x,S,u,I.s,(ah.mono T)⟩
   refine wc_skip (qe_block (qg (lv (rv_add_to u u (w64_succ hi30 (SliceAt.max C))) (mv u (wl_nil ?_)))))
   cases oi J
   exact qd ⟨_,u,S,u,I.s,(o.trans T)⟩
  rintro R _ X aq ⟨k,rfl,m,o⟩
  subst aq
  refine sr (lv (rv_lss u u) (ns (wc_cond_f u (decide_eq_false (by omega)) (wc_exit (qe_then_exit (qe_then_exit (qe_block_eq ?_)))))))
  cases oi O
  exact qd ⟨_,k,u,u,m,o⟩
 rintro _ aH ⟨aI,ar,rfl,rfl,au,aJ⟩
 have l:=elim_l l
 refine qr (lv (r_n u) (nq (wc_ret ?_)))
 cases oi l
 exact ey results95 ⟨none,0,0,ar,u,au,(SliceAt.nil _ _)⟩

set_option maxHeartbeats 2000000 in
theorem own_impl_SegPosts (F:Nat){w:World}{K:KMap}{a1:Option Addr}{n2 c3:Nat}{a5:Option Addr}{n6 c7:Nat}{a9:Option Addr}{n10 c11:Nat}{a13:Option Addr}{n14 c15:Nat}{p0_c:GConf}{p1_s:GSeg}{p2_field:Str}{p3_term:Str}{r:(List GPost)}(hS:SH w K [] w K [])(hs4:SliceAt tStr K a1 n2 c3 p0_c.Stops)(hs8:SliceAt tGSyn K a5 n6 c7 p0_c.Syns)(hs12:SliceAt tGDoc K a9 n10 c11 p1_s.Docs)(hs16:SliceAt tGEntry K a13 n14 c15 p1_s.Entries)(hl17:p2_field.length≤maxLen)(hl18:p3_term.length≤maxLen)(hm:M.impl_SegPosts F p0_c p1_s p2_field p3_term=some r):
  Calls Tryz.prog 32 #[.agg #[.slice a1 n2 c3,.slice a5 n6 c7],.agg #[.slice a9 n10 c11,.slice a13 n14 c15],sv p2_field,sv p3_term] w fun e w'=>∃(a_1:Option Addr) (n_2 c_3:Nat) (K':KMap) (f':List Nat),e= .returned (.slice a_1 n_2 c_3)∧SH w K [] w' K' [bag f']∧RowO oPost K' f' (.slice a_1 n_2 c_3) r:=by
 rw [M.impl_SegPosts] at hm
 refine calls_in Tryz.func32 rfl Tryz.ntmps32 rfl ?_
 refine sr ?_
 refine wl_box wn rfl rfl hS ?_
 intro g19 w20 hS21
 have hS22:SH _ _ _ _ _ [obj g19 [.slice a1 n2 c3,.slice a5 n6 c7] 33]:=hS21
 refine wl_box wn rfl rfl hS22 ?_
 intro g23 w24 hS25
 have hS26:SH _ _ _ _ _ [obj g23 [.slice a9 n10 c11,.slice a13 n14 c15] 46,_]:=hS25
 refine wl_val wn rfl (rv_assign (v:=.slice none 0 0) rfl) ?_
 refine nr ?_
 refine wl_buildSlice0 tGPost wn rfl Tryz.underlying61 tf134 hS26 ?_
 intro a27 w28 K29 hl30 hs31 hS32
 refine va rfl rfl ?_
 refine nsr ?_
 refine wl_val wn rfl (rv_loadmS (ds:=[.slice a1 n2 c3,.slice a5 n6 c7]) tf33 rfl (.tail _ (.tail _ (.head _))) hS32 rfl rfl) ?_
 refine wl_val wn rfl (rv_loadmS (ds:=[.slice a9 n10 c11,.slice a13 n14 c15]) tf46 rfl (.tail _ (.head _)) hS32 rfl rfl) ?_
 obtain⟨r33,hx34,h35⟩:=ob hm
 refine wl_call wn rfl (rt_call (vs:=[.agg #[.slice a1 n2 c3,.slice a5 n6 c7],.agg #[.slice a9 n10 c11,.slice a13 n14 c15]]) co94 rfl) ((ok_impl_SegOk F) hS32.enter0 (SliceAt.mono hl30 hs4) (SliceAt.mono hl30 hs8) (SliceAt.mono hl30 hs12) (SliceAt.mono hl30 hs16) hx34) ?_
 rintro e39 w37 ⟨K36,rfl,hS38⟩
 refine⟨_,rfl,?_⟩
 have hS40:SH _ _ _ _ _ [_,_,_]:=SH.call0 hS32 hS38
 refine wl_val wn rfl (rv_not rfl) ?_
 refine nq ?_
 refine wc_cond rfl (fun hb41=>?_) (fun hb41=>?_)
 ·have h42:=cond_t hb41 h35
  refine sr ?_
  refine vm rfl rfl ?_
  refine va rfl rfl ?_
  refine nq ?_
  refine rr ?_
  obtain rfl:=oi h42
  have hS43:SH _ _ _ _ _ [_]:=SH.sublist hS40 (.cons_cons _ (.cons _ (.cons _ .slnil)))
  obtain⟨ff0,hSf0,hRf0⟩:=SH.ownS (SH.bagAdd hS43) (OwnS.none (o:=oPost) (SliceAt.mono hS38.le hs31))
  exact qe_ret (vs:=[_]) Tryz.results32 ⟨rfl,trivial⟩ ⟨a27,0,0,K36,ff0,rfl,hSf0,hRf0⟩
 ·have h42:=cond_f hb41 h35
  refine wc_skip ?_
  refine qs ?_
  refine sr ?_
  refine vm rfl rfl ?_
  refine vm rfl rfl ?_
  obtain⟨r44,hx45,h46⟩:=ob h42
  have hS47:SH _ _ _ _ _ [_,_,_]:=SH.front (p:=[_]) hS40
  refine wl_call wn rfl (rt_call (vs:=[.pointer (some ⟨g23,0,none⟩),sv p2_field,sv p3_term]) co95 rfl) ((ok_impl_Seg_posts F) (SH.enter (Lin:=[_]) hS47) (SliceAt.mono (hl30.trans hS38.le) hs12) (SliceAt.mono (hl30.trans hS38.le) hs16) hl17 hl18 hx45) ?_
  rintro e55 w49 ⟨a51,n52,c53,K48,rfl,hS50,hs54⟩
  refine⟨_,rfl,?_⟩
  have hS56:SH _ _ _ _ _ [_,_,_]:=SH.call (Lin:=[_]) hS47 hS50
  refine wl_val wn rfl (rv_len (t:=tGPost) Tryz.underlying61 rfl hs54) ?_
  refine wl_val wn rfl (rv_move (v:=.int .i64 0) rfl) ?_
  refine nq ?_
  obtain⟨o57,h58,h59⟩:=ob h46
  refine wc_cutg (fun E' w'=>∃(a64:Option Addr) (n65 c66:Nat) (K60:KMap) (B64:List Nat),E'=[(9,.slice a64 n65 c66)]∧SH w K [] w' K60 [tail (.slice a64 n65 c66) 134 2,bag B64]∧KLe K48 K60∧OwnS oPost K60 a64 n65 c66 B64 o57) ?_ ?_
  ·refine wc_block ?_
   obtain⟨r69,h70,h71⟩:=ob h58
   have hS81:SH _ _ _ _ _ [_]:=SH.sublist hS56 (.cons _ (.cons_cons _ (.cons _ .slnil)))
   refine wc_forE' (fun (i72:Nat) (s68:(List GPost)) E' w'=>∃(a77:Option Addr) (n78 c79:Nat) (K73:KMap) (B77:List Nat),E'=[(9,.slice a77 n78 c79),(20,.slice a51 n52 c53),(21,.int .i64 (r44.length:Int)),(22,.int .i64 ((i72:Nat):Int))]∧SH w K [] w' K73 [tail (.slice a77 n78 c79) 134 2,bag B77]∧KLe K48 K73∧OwnS oPost K73 a77 n78 c79 B77 s68) h70 ⟨a27,0,0,K48,[],rfl,SH.bagAdd hS81,(KLe.refl _),OwnS.none (o:=oPost) (SliceAt.mono (hS38.le.trans hS50.le) hs31)⟩ ⟨rfl,rfl,rfl,rfl,trivial⟩ ?_ ?_
   ·rintro i72 s68 _ w75 r82 hi83 h84 ⟨a77,n78,c79,K73,B77,rfl,hS76,hl74,hs80⟩
    refine sr ?_
    refine wl_val wn rfl (rv_lss rfl rfl) ?_
    refine ns ?_
    refine wc_cond_t rfl (decide_eq_true (by omega)) (wc_skip (qe_seq (wc_seq ?_)))
    refine wc_block ?_
    refine sr ?_
    obtain⟨x86,hx87,h88⟩:=ob h84
    refine wl_indexAddr (t:=tGPost) wn rfl Tryz.underlying61 tf134 rfl rfl (SliceAt.mono hl74 hs54) hx87 ?_
    intro b89 o90 u91 hu92 ha93
    obtain⟨a95,n96,c97,rfl,hr94,hs98⟩:=hu92
    have ha99:AtK _ b89 o90 [.int .i64 x86.Doc,.slice a95 n96 c97]:=ha93
    refine wl_val wn rfl (rv_loadS (cs:=[.int .i64 x86.Doc,.slice a95 n96 c97]) tf134 rfl hS76 ha99 rfl) ?_
    refine wl_alloc wn rfl tf134 hS76 ?_
    intro g100 w101 hS102
    have hS103:SH _ _ _ _ _ [obj g100 [.int .i64 0,.slice none 0 0] 134,_,_]:=hS102
    refine wl_store (cs':=[.int .i64 x86.Doc,.slice a95 n96 c97]) (v:=.agg #[.int .i64 x86.Doc,.slice a95 n96 c97]) wn tf134 rfl rfl rfl (by simp [Value.cells,Value.oneCell']) hS103 rfl rfl ?_
    intro w104 hS105
    refine nq ?_
    refine wc_held (fun w'=>Holds K73 w'∧HasObj g100 [.int .i64 x86.Doc,.slice a95 n96 c97] w') (fun w'=>True) 11 [] mixed ?_
    have hS107:=SH.drew hS105
    refine wg_val (i:=0) (listed':=L_ 11 0) (fun _=>True) rfl (by kernel_rfl) (pk_block (pk_then (pk_then (pk_block (pk_then (pk_then pk_body)))))) (by kernel_rfl) rfl (by kernel_rfl) (by kernel_rfl) rfl (.inl fun _ _=>trivial) ⟨⟨hS107.hasK (KLe.refl _),hS107.hasObj (.head _)⟩,(fun _=>trivial),by decide⟩ wn rfl (fun _ _=>(rv_move rfl)) ?_
    refine wg_val (i:=1) (listed':=L_ 11 1) (fun _=>True) rfl (by kernel_rfl) (pk_block (pk_then (pk_then (pk_block (pk_then (pk_then pk_body)))))) (by kernel_rfl) rfl (by kernel_rfl) (by kernel_rfl) rfl (.inl fun _ _=>trivial) ⟨⟨hS107.hasK (KLe.refl _),hS107.hasObj (.head _)⟩,(fun _=>trivial),by decide⟩ wn rfl (fun _ _=>(rv_fieldAddr ff134_0 rfl)) ?_
    refine wg_val (i:=2) (listed':=L_ 11 2) (HasObj g100 [.int .i64 x86.Doc,.slice a95 n96 c97]) rfl (by kernel_rfl) (pk_block (pk_then (pk_then (pk_block (pk_then (pk_then pk_body)))))) (by kernel_rfl) rfl (by kernel_rfl) (by kernel_rfl) rfl (.inl fun _ h=>h.2) ⟨⟨hS107.hasK (KLe.refl _),hS107.hasObj (.head _)⟩,(fun _=>trivial),by decide⟩ wn rfl (fun _ h=>rh_loadm1 tf3 rfl rfl h) ?_
    refine wg_val (i:=4) (listed':=#[true,true,true,false,true,false,false,false,false,false,false]) (fun _=>True) rfl (by kernel_rfl) (pk_block (pk_then (pk_then (pk_block (pk_then (pk_then pk_body)))))) (by kernel_rfl) rfl (by kernel_rfl) (by kernel_rfl) rfl (.inl fun _ _=>trivial) ⟨⟨hS107.hasK (KLe.refl _),hS107.hasObj (.head _)⟩,(fun _=>trivial),by decide⟩ wn rfl (fun _ _=>(rv_fieldAddr ff134_1 rfl)) ?_
    refine wg_val (i:=5) (listed':=#[true,true,true,false,true,true,false,false,false,false,false]) (HasObj g100 [.int .i64 x86.Doc,.slice a95 n96 c97]) rfl (by kernel_rfl) (pk_block (pk_then (pk_then (pk_block (pk_then (pk_then pk_body)))))) (by kernel_rfl) rfl (by kernel_rfl) (by kernel_rfl) rfl (.inl fun _ h=>h.2) ⟨⟨hS107.hasK (KLe.refl _),hS107.hasObj (.head _)⟩,(fun _=>trivial),by decide⟩ wn rfl (fun _ h=>rh_loadm1 tf71 rfl rfl h) ?_
    refine wg_one (i:=3) (by kernel_rfl) rfl ?_
    refine wl_buildSlice0 tInt wn rfl Tryz.underlying71 tf3 hS107 ?_
    intro a108 w109 K110 hl111 hs112 hS113
    refine wl_nil (qe_held (listed':=L_ 11 5) rfl ⟨⟨hS113.hasK hl111,hS113.hasObj (.tail _ (.head _))⟩,(fun _=>trivial),by decide⟩ ?_)
    refine wg_one (i:=6) (by kernel_rfl) rfl ?_
    obtain⟨x114,hx115,h116⟩:=ob h88
    refine wl_append (t:=tInt) wn rfl Tryz.underlying71 tf3 rfl rfl rfl rfl rfl hs112 (SliceAt.mono hl111 hs98) hx115 hS113 ?_
    intro a117 n118 c119 w120 K121 hl122 hs123 hS124
    refine wl_nil (qe_held (listed':=L_ 11 6) rfl ⟨⟨hS124.hasK (hl111.trans hl122),hS124.hasObj (.tail _ (.head _))⟩,(fun _=>trivial),by decide⟩ ?_)
    refine wg_val (i:=7) (listed':=L_ 11 7) (fun _=>True) rfl (by kernel_rfl) (pk_block (pk_then (pk_then (pk_block (pk_then (pk_then pk_body)))))) (by kernel_rfl) rfl (by kernel_rfl) (by kernel_rfl) rfl (.inl fun _ _=>trivial) ⟨⟨hS124.hasK (hl111.trans hl122),hS124.hasObj (.tail _ (.head _))⟩,(fun _=>trivial),by decide⟩ wn rfl (fun _ _=>(rv_build (cs:=#[.int .i64 x86.Doc,.slice a117 n118 c119]) sp134 tf134 rfl (by kernel_rfl))) ?_
    refine wg_one (i:=8) (by kernel_rfl) rfl ?_
    obtain⟨fx0,hSx0,hox0⟩:=SH.ownPost (x:=(GPost.mk x86.Doc x114)) hS124 hr94 hs123
    refine wl_buildSlice (t:=oPost.pair) (n:=1) (pv:=[(0,.agg #[.int .i64 x86.Doc,.slice a117 n118 c119])]) (cs:=[.int .i64 x86.Doc,.slice a117 n118 c119]) (xs:=[((GPost.mk x86.Doc x114),fx0)]) wn rfl Tryz.underlying61 tf134 rfl rfl rfl (by kernel_rfl) rfl rfl (lit_cons (u:=.agg #[.int .i64 x86.Doc,.slice a117 n118 c119]) (z:=((GPost.mk x86.Doc x114),fx0)) hox0 lit_nil) hSx0 ?_
    intro a125 w126 K127 hl128 hs129 hS130
    refine wl_nil (qe_held (listed':=L_ 11 8) rfl ⟨⟨hS130.hasK ((hl111.trans hl122).trans hl128),hS130.hasObj (.tail _ (.tail _ (.head _)))⟩,(fun _=>trivial),by decide⟩ ?_)
    refine wg_one (i:=9) (by kernel_rfl) rfl ?_
    have hS131:SH _ _ _ _ _ [_,_,_,_,_]:=SH.front (p:=[_,_,_]) hS130
    obtain⟨x132,hx133,h134⟩:=ob h116
    refine wl_appendO (o:=oPost) wn rfl Tryz.underlying61 tf134 rfl rfl rfl rfl rfl (OwnS.mono hs80 ((hl111.trans hl122).trans hl128)) (OwnS.one hs129) hx133 hS131 ?_
    intro a135 n136 c137 w138 K139 hl140 hs141 hS142
    refine wl_nil (qe_held (listed':=L_ 11 9) rfl ⟨⟨hS142.hasK (((hl111.trans hl122).trans hl128).trans hl140),hS142.hasObj (.tail _ (.tail _ (.tail _ (.head _))))⟩,(fun _=>trivial),by decide⟩ ?_)
    refine wg_val (i:=10) (listed':=L_ 11 10) (fun _=>True) rfl (by kernel_rfl) (pk_block (pk_then (pk_then (pk_block (pk_then (pk_then pk_body)))))) (by kernel_rfl) rfl (by kernel_rfl) (by kernel_rfl) rfl (.inl fun _ _=>trivial) ⟨⟨hS142.hasK (((hl111.trans hl122).trans hl128).trans hl140),hS142.hasObj (.tail _ (.tail _ (.tail _ (.head _))))⟩,(fun _=>trivial),by decide⟩ wn rfl (fun _ _=>(rv_assign rfl)) ?_
    refine wg_done (by kernel_rfl) ?_
    refine qe_block ?_
    refine qg ?_
    refine wl_val wn rfl (rv_add_to rfl rfl (w64_succ hi83 (SliceAt.max hs54))) ?_
    refine vm rfl rfl ?_
    refine wl_nil ?_
    obtain rfl:=oi h134
    have hS143:=SH.bagEnd (SH.sublist (L':=[_,_,_]) hS142 (.cons_cons _ (.cons _ (.cons_cons _ (.cons _ (.cons_cons _ .slnil))))))
    exact qe_mid' ⟨a135,n136,c137,K139,(B77++fx0),rfl,hS143,((((hl74.trans hl111).trans hl122).trans hl128).trans hl140),hs141⟩ ⟨rfl,rfl,rfl,rfl,trivial⟩
   ·rintro s68 _ w75 hr144 ⟨a77,n78,c79,K73,B77,rfl,hS76,hl74,hs80⟩
    subst hr144
    refine sr ?_
    refine wl_val wn rfl (rv_lss rfl rfl) ?_
    refine ns ?_
    refine wc_cond_f rfl (decide_eq_false (by omega)) ?_
    refine wc_exit ?_
    refine qe_then_exit ?_
    refine qe_then_exit ?_
    refine qe_block_eq ?_
    obtain rfl:=oi h71
    exact qe_mid' ⟨a77,n78,c79,K73,B77,rfl,hS76,hl74,hs80⟩ ⟨rfl,trivial⟩
  ·rintro _ w62 ⟨a64,n65,c66,K60,B64,rfl,hS63,hl61,hs67⟩
   refine qr ?_
   refine vm rfl rfl ?_
   refine va rfl rfl ?_
   refine nq ?_
   refine wc_ret ?_
   obtain rfl:=oi h59
   obtain⟨ff0,hSf0,hRf0⟩:=SH.ownS hS63 hs67
   exact qe_ret (vs:=[_]) Tryz.results32 ⟨rfl,trivial⟩ ⟨a64,n65,c66,K60,ff0,rfl,hSf0,hRf0⟩

theorem ok_laws_heldIntS {q0:List Int}{q1:Int}{r:Int}(hS:SH w K [] w K [])(s:SliceAt tInt K A a b q0)(B:rng64 q1)(hm:M.laws_heldIntS F q0 q1=some r):
  Calls prog 98 #[V3 A a b,V6 q1] w (R_i w K r):=by
 rw [M.laws_heldIntS] at hm
 refine ci func98 u ntmps98 (sr (lv (r_0 u) (nsr (lv (r_0 u) (nq ?_)))))
 obtain⟨C,D,d⟩:=ob hm
 refine wc_cutg (fun E' w'=>∃f i,C= .inl f∧E'=[(1,V6 f)]∧SH w K [] w' i []∧KLe K i∧rng64 f) ?_ ?_
 ·refine wc_block ?_
  obtain⟨ac,G,x⟩:=ob D
  refine qw (fun (c:Int×Int)=>IW w K [] K [(0,V3 A a b),(1,V6 c.1),(5,V6 c.2)] [] (rng64 c.1∧rng64 c.2)) G ⟨K,u,hS,kr,B,d_0⟩ ?_
  rintro c _ ad ae H y ⟨m,rfl,k,l,I,af⟩
  refine wc_seq (sr (mv u (mv u (lv (rv_len underlying71 u (s.mono l)) (lv (rv_lss u u) (nq (wcc H u (fun J o=>?_) (fun J o=>?_))))))))
  ·refine wc_skip (qs (wc_block (wc_seq (sr (mv u (mv u ?_))))))
   obtain⟨O,R,S⟩:=ob o
   refine li underlying71 tf3 (s.mono l) R fun T U ag V W=>?_
   obtain⟨rfl,ah⟩:=V
   have X:AtK _ T U [V6 O]:=W
   refine lv (rv_load1 tf3 u k (X 0 _ u)) (mv u (lv (rv_neq u u) (nq (wcc S u (fun Y q=>?_) (fun Y q=>?_)))))
   ·refine sr (lv (rv_assign (v:=V6 (-1)) u) (nq (rr (qe_block_ret (qe_then_ret (qe_then_ret ?_))))))
    cases oi q
    cases y _ u
    refine qe_block_ret (qe_then_ret ?_)
    cases oi x
    refine qe_then_ret ?_
    cases oi d
    exact ey results98 ⟨m,u,k,(by decide :rng64 (-1))⟩
   refine wc_skip (qe_seq (wc_region (mv u (lv (rv_add u u) (av u (nb (qe_seq (wc_region (mv u ?_)))))))))
   refine lv (rv_add u u) (av u (wl_nil ?_))
   cases oi q
   exact qd ⟨_,u,m,u,k,l,(w64_rng _),(w64_rng _)⟩
  refine wc_exit (qe_then_exit (qe_then_exit ?_))
  cases oi o
  cases y _ u
  refine qe_block_eq ?_
  cases oi x
  exact qd ⟨_,m,u,u,k,l,I⟩
 rintro _ ai ⟨f,i,rfl,rfl,aa,aj,ab⟩
 have d:=elim_l d
 refine qr (mv u (av u (nq (wc_ret ?_))))
 cases oi d
 exact ey results98 ⟨i,u,aa,ab⟩

theorem ok_laws_heldPostS {q0:List GPost}{q1:Int}{r:Int}(hS:SH w K [] w K [])(m:SliceAt tGPost K A a b q0)(H:rng64 q1)(hm:M.laws_heldPostS F q0 q1=some r):
  Calls prog 35 #[V3 A a b,V6 q1] w (R_i w K r):=by
 rw [M.laws_heldPostS] at hm
 refine ci func35 u ntmps35 (sr (lv (r_0 u) (nsr (lv (r_0 u) (nq ?_)))))
 obtain⟨I,J,d⟩:=ob hm
 refine wc_cutg (fun E' w'=>∃k l,I= .inl k∧E'=[(1,V6 k)]∧SH w K [] w' l []∧KLe K l∧rng64 k) ?_ ?_
 ·refine wc_block ?_
  obtain⟨aC,O,o⟩:=ob J
  refine qw (fun (f:Int×Int)=>IW w K [] K [(0,V3 A a b),(1,V6 f.1),(5,V6 f.2)] [] (rng64 f.1∧rng64 f.2)) O ⟨K,u,hS,kr,H,d_0⟩ ?_
  rintro f _ aD aE R q ⟨B,rfl,c,i,S,aF⟩
  refine wc_seq (sr (mv u (mv u (lv (rv_len underlying61 u (m.mono i)) (lv (rv_lss u u) (nq (wcc R u (fun T s=>?_) (fun T s=>?_))))))))
  ·refine wc_skip (qs (wc_block (wc_seq (sr (mv u (mv u ?_))))))
   obtain⟨U,V,W⟩:=ob s
   refine li underlying61 tf134 (m.mono i) V fun X Y aG aa ab=>?_
   obtain⟨ac,ad,ae,rfl,aH,aI⟩:=aa
   have af:AtK _ X Y [V6 U.Doc,V3 ac ad ae]:=ab
   refine fa ff134_0 u (lv (rv_load1 tf3 u c (af 0 _ u)) (mv u (lv (rv_neq u u) (nq (wcc W u (fun ag x=>?_) (fun ag x=>?_))))))
   ·refine sr (lv (rv_assign (v:=V6 (-1)) u) (nq (rr (qe_block_ret (qe_then_ret (qe_then_ret ?_))))))
    cases oi x
    cases q _ u
    refine qe_block_ret (qe_then_ret ?_)
    cases oi o
    refine qe_then_ret ?_
    cases oi d
    exact ey results35 ⟨B,u,c,(by decide :rng64 (-1))⟩
   refine wc_skip (qr (mv u (lv (rv_add u u) (av u (nr (mv u (mv u ?_)))))))
   obtain⟨ah,ai,aj⟩:=ob x
   refine li underlying61 tf134 (m.mono i) ai fun ak al aJ am an=>?_
   obtain⟨ao,ap,aq,rfl,aK,ar⟩:=am
   have au:AtK _ ak al [V6 ah.Doc,V3 ao ap aq]:=an
   refine fa ff134_1 u (lv (rv_load1 tf71 u c (au 1 _ u)) (mv u ?_))
   obtain⟨aL,aw,ax⟩:=ob aj
   refine lk co98 (ok_laws_heldIntS F c.enter0 ar (w64_rng _) aw) ?_
   rintro aM aN ⟨C,rfl,D,ay⟩
   have G:=(c.c0 D).t0
   refine av u (nr (mv u (lv (rv_lss u u) (nq (wcc ax u (fun az y=>?_) (fun az y=>?_))))))
   ·refine sr (lv (rv_assign (v:=V6 (-1)) u) (nq (wc_ret (qe_block_ret (qe_then_ret (qe_then_ret ?_))))))
    cases oi y
    cases q _ u
    refine qe_block_ret (qe_then_ret ?_)
    cases oi o
    refine qe_then_ret ?_
    cases oi d
    exact ey results35 ⟨C,u,G,(by decide :rng64 (-1))⟩
   refine wc_skip (qe_block (qe_seq (wc_region (mv u (lv (rv_add u u) (av u (wl_nil ?_)))))))
   cases oi y
   exact qd ⟨_,u,C,u,G,(i.trans D.le),ay,(w64_rng _)⟩
  refine wc_exit (qe_then_exit (qe_then_exit ?_))
  cases oi s
  cases q _ u
  refine qe_block_eq ?_
  cases oi o
  exact qd ⟨_,B,u,u,c,i,S⟩
 rintro _ aO ⟨k,l,rfl,rfl,aA,aP,aB⟩
 have d:=elim_l d
 refine qr (mv u (av u (nq (wc_ret ?_))))
 cases oi d
 exact ey results35 ⟨l,u,aA,aB⟩

theorem ok_laws_FnExactSegPosts {q0:GConf}{q1:GSeg}{q2:Str}{q3:Str}{r:Bool}(hS:SH w K [] w K [])(am:SliceAt tStr K A a b q0.Stops)(an:SliceAt tGSyn K B c d q0.Syns)(ao:SliceAt tGDoc K C f i q1.Docs)(ap:SliceAt tGEntry K D k l q1.Entries)(aU:q2.length≤maxLen)(aV:q3.length≤maxLen)(hm:M.laws_FnExactSegPosts F q0 q1 q2 q3=some r):
  Calls prog 5 #[.agg #[V3 A a b,V3 B c d],.agg #[V3 C f i,V3 D k l],sv q2,sv q3] w (R_b w K r):=by
 rw [M.laws_FnExactSegPosts] at hm
 refine ci func5 rfl ntmps5 (sr (bx rfl hS fun ae eq ck=>?_))
 have cl:SH _ _ _ _ _ [obj ae [V3 A a b,V3 B c d] 25]:=ck
 refine bx rfl cl fun af es cm=>?_
 have aq:SH _ _ _ _ _ [obj af [V3 C f i,V3 D k l] 59,_]:=cm
 refine lv (r_f rfl) (nsr (mv rfl (lv (rv_slen underlying9 rfl) (lv (rv_gtr rfl rfl) (nq (wc_cond rfl (fun aW=>?_) (fun aW=>?_)))))))
 ·have aX:=cond_t aW hm
  refine sr (lv (r_t rfl) (nq (rr ?_)))
  cases oi aX
  exact ey results5 ⟨K,rfl,aq.s⟩
 have aX:=cond_f aW hm
 refine wc_skip (qs (sr (mv rfl (lv (rv_slen underlying9 rfl) (lv (rv_gtr rfl rfl) (nq (wcc aX rfl (fun cn aY=>?_) (fun cn aY=>?_))))))))
 ·refine sr (lv (r_t rfl) (nq (rr ?_)))
  cases oi aY
  exact ey results5 ⟨K,rfl,aq.s⟩
 refine wc_skip (qr (lv (rv_assign (v:=V6 1048576) rfl) (nr (lv (rv_loadmS (ds:=[V3 A a b,V3 B c d]) tf25 rfl m1 aq rfl rfl) (mv rfl ?_)))))
 obtain⟨et,cp,cq⟩:=ob aY
 refine lk co16 (ok_laws_szConf F aq.enter0 am an (by decide :rng64 1048576) cp) ?_
 rintro eu ev ⟨cr,rfl,G,cs⟩
 have aS:=(aq.c0 G).t2
 refine av rfl (nsr (mv rfl (lv (rv_lss rfl rfl) (nq (wcc cq rfl (fun ct aZ=>?_) (fun ct aZ=>?_))))))
 ·refine sr (lv (r_t rfl) (nq (rr ?_)))
  cases oi aZ
  exact ey results5 ⟨cr,rfl,aS.s⟩
 refine wc_skip (qr (lv (rv_loadmS (ds:=[V3 C f i,V3 D k l]) tf59 rfl m0 aS rfl rfl) (mv rfl ?_)))
 obtain⟨ew,cu,cv⟩:=ob aZ
 refine lk co29 (ok_laws_szSeg F aS.enter0 (ao.mono G.le) (ap.mono G.le) cs cu) ?_
 rintro ex eA ⟨bz,rfl,R,eB⟩
 have bA:=(aS.c0 R).t2
 refine av rfl (nsr (mv rfl (lv (rv_lss rfl rfl) (nq (wcc cv rfl (fun cw ba=>?_) (fun cw ba=>?_))))))
 ·refine sr (lv (r_t rfl) (nq (rr ?_)))
  cases oi ba
  exact ey results5 ⟨bz,rfl,bA.s⟩
 refine wc_skip (qs (wc_held (fun w'=>Holds bz w'∧HasObj ae [V3 A a b,V3 B c d] w'∧HasObj af [V3 C f i,V3 D k l] w') (fun w'=>True) 8 [] mixed ?_))
 have V:=bA.drew
 refine wg_val (i:=0) (listed':=L_ 8 0) (HasObj ae [V3 A a b,V3 B c d]) rfl (by kernel_rfl) (pk_then pk_body) (by kernel_rfl) rfl (by kernel_rfl) (by kernel_rfl) rfl (.inl fun _ h=>h.2.1) ⟨⟨V.hasK kr,V.hasObj m1,V.hasObj m0⟩,(fun _=>trivial),by decide⟩ wn rfl (fun _ h=>rh_loadmS (ds:=[V3 A a b,V3 B c d]) tf25 rfl rfl rfl h) (wg_val (i:=2) (listed':=#[true,false,true,false,false,false,false,false]) (HasObj af [V3 C f i,V3 D k l]) rfl (by kernel_rfl) (pk_then pk_body) (by kernel_rfl) rfl (by kernel_rfl) (by kernel_rfl) rfl (.inl fun _ h=>h.2.2) ⟨⟨V.hasK kr,V.hasObj m1,V.hasObj m0⟩,(fun _=>trivial),by decide⟩ wn rfl (fun _ h=>rh_loadmS (ds:=[V3 C f i,V3 D k l]) tf59 rfl rfl rfl h) (wg_val (i:=4) (listed':=#[true,false,true,false,true,false,false,false]) (fun _=>True) rfl (by kernel_rfl) (pk_then pk_body) (by kernel_rfl) rfl (by kernel_rfl) (by kernel_rfl) rfl (.inl fun _ _=>trivial) ⟨⟨V.hasK kr,V.hasObj m1,V.hasObj m0⟩,(fun _=>trivial),by decide⟩ wn rfl (fun _ _=>(rv_move rfl)) ?_))
 refine wg_val (i:=5) (listed':=#[true,false,true,false,true,true,false,false]) (fun _=>True) rfl (by kernel_rfl) (pk_then pk_body) (by kernel_rfl) rfl (by kernel_rfl) (by kernel_rfl) rfl (.inl fun _ _=>trivial) ⟨⟨V.hasK kr,V.hasObj m1,V.hasObj m0⟩,(fun _=>trivial),by decide⟩ wn rfl (fun _ _=>(rv_move rfl)) (wg_one (i:=1) (by kernel_rfl) rfl ?_)
 obtain⟨eC,cx,cy⟩:=ob ba
 refine lk co19 ((bag_laws_toConf F) V.enter0 (am.mono (G.le.trans R.le)) (an.mono (G.le.trans R.le)) cx) ?_
 rintro eD eE ⟨eF,eG,eH,eI,eJ,eK,eL,B65,rfl,H,cz,cA⟩
 have cB:=cz.mono only_le
 have cC:=cA.mono only_le
 have ar:=(V.c0 H).t3
 refine wl_nil (qe_held (listed':=#[true,true,true,false,true,true,false,false]) rfl ⟨⟨ar.hasK H.le,ar.hasObj m2,ar.hasObj m1⟩,(fun _=>trivial),by decide⟩ (wg_one (i:=3) (by kernel_rfl) rfl ?_))
 obtain⟨eM,cD,cE⟩:=ob cy
 refine lk co31 ((bag_laws_toSeg F) ar.enter0 (ao.mono ((G.le.trans R.le).trans H.le)) (ap.mono ((G.le.trans R.le).trans H.le)) cD) ?_
 rintro eN eO ⟨eP,eQ,eR,eS,eT,eU,eV,B84,rfl,J,cF,cG⟩
 have cH:=cF.mono only_le
 have cI:=cG.mono only_le
 have au:=(ar.c0 J).t4
 refine wl_nil (qe_held (listed':=L_ 8 5) rfl ⟨⟨au.hasK (H.le.trans J.le),au.hasObj m3,au.hasObj m2⟩,(fun _=>trivial),by decide⟩ (wg_one (i:=6) (by kernel_rfl) rfl ?_))
 obtain⟨eW,cJ,cK⟩:=ob cE
 refine lk co30 (ok_spec_SegPosts F au.enter0 (cB.mono J.le) (cC.mono J.le) cH cI aU aV cJ) ?_
 rintro eX eY ⟨bb,bc,bd,eZ,rfl,T,be⟩
 have U:=(au.c0 T).t5
 refine wl_nil (qe_held (listed':=L_ 8 6) rfl ⟨⟨U.hasK ((H.le.trans J.le).trans T.le),U.hasObj m4,U.hasObj m3⟩,(fun _=>trivial),by decide⟩ (wg_val (i:=7) (listed':=L_ 8 7) (fun _=>True) rfl (by kernel_rfl) (pk_then pk_body) (by kernel_rfl) rfl (by kernel_rfl) (by kernel_rfl) rfl (.inl fun _ _=>trivial) ⟨⟨U.hasK ((H.le.trans J.le).trans T.le),U.hasObj m4,U.hasObj m3⟩,(fun _=>trivial),by decide⟩ wn rfl (fun _ _=>(rv_assign rfl)) (wg_done (by kernel_rfl) (qr (lv (rv_loadmS (ds:=[V3 A a b,V3 B c d]) tf25 rfl m4 U rfl rfl) ?_)))))
 obtain⟨fb,cL,cM⟩:=ob cK
 refine lk co19 ((bag_laws_toConf F) U.enter0 (SliceAt.mono ((((G.le.trans R.le).trans H.le).trans J.le).trans T.le) am) (SliceAt.mono ((((G.le.trans R.le).trans H.le).trans J.le).trans T.le) an) cL) ?_
 rintro fc fd ⟨aw,ax,ay,az,aA,aB,fe,B115,rfl,m,bB,bC⟩
 have bD:=bB.mono only_le
 have bE:=bC.mono only_le
 have cN:=(U.c0 m).t6
 refine al tf33 cN fun bF fg cO=>?_
 have cP:SH _ _ _ _ _ [obj bF [V3 none 0 0,V3 none 0 0] 33,_,_,_,_,_,_]:=cO
 refine lw [V3 aw ax ay,V3 az aA aB] tf33 cP fun fh Y=>(nr (lv (rv_loadmS (ds:=[V3 C f i,V3 D k l]) tf59 rfl m5 Y rfl rfl) ?_))
 obtain⟨fi,cQ,cR⟩:=ob cM
 refine lk co31 ((bag_laws_toSeg F) Y.enter0 (SliceAt.mono (((((G.le.trans R.le).trans H.le).trans J.le).trans T.le).trans m.le) ao) (SliceAt.mono (((((G.le.trans R.le).trans H.le).trans J.le).trans T.le).trans m.le) ap) cQ) ?_
 rintro fj fk ⟨aC,aD,aE,aF,aG,aH,fm,B140,rfl,q,bG,bH⟩
 have bI:=bG.mono only_le
 have bJ:=bH.mono only_le
 have cS:=(Y.c0 q).t8
 refine al tf46 cS fun bK fn cT=>?_
 have cU:SH _ _ _ _ _ [obj bK [V3 none 0 0,V3 none 0 0] 46,_,_,_,_,_,_,_,_]:=cT
 refine lw [V3 aC aD aE,V3 aF aG aH] tf46 cU fun fo aa=>(nr (lv (rv_loadmS (ds:=[V3 aw ax ay,V3 az aA aB]) tf33 rfl m2 aa rfl rfl) (lv (rv_loadmS (ds:=[V3 aC aD aE,V3 aF aG aH]) tf46 rfl m0 aa rfl rfl) (mv rfl (mv rfl ?_)))))
 obtain⟨fp,cV,cW⟩:=ob cR
 refine lk co32 ((own_impl_SegPosts F) aa.enter0 (bD.mono q.le) (bE.mono q.le) bI bJ aU aV cV) ?_
 rintro fq fr ⟨bL,bM,bN,fs,B169,rfl,s,ho170⟩
 have cX:=RowO.sl ho170
 have bO:=(aa.c0 s).t10
 refine av rfl (nsr (mv rfl (mv rfl ?_)))
 obtain⟨ft,cY,cZ⟩:=ob cW
 refine lk co33 (ok_laws_eqPostS F bO.enter0 cX (be.mono ((m.le.trans q.le).trans s.le)) cY) ?_
 rintro fu fv ⟨bP,rfl,x⟩
 have bQ:=(bO.c0 x).t10
 refine lv (rv_not rfl) (nq (wcc cZ rfl (fun da bf=>?_) (fun da bf=>?_)))
 ·refine sr (lv (r_f rfl) (nq (rr ?_)))
  cases oi bf
  exact ey results5 ⟨bP,rfl,bQ.s⟩
 refine wc_skip (qs (wc_seq ?_))
 have aI:=bQ.drew
 refine wh1 (fun w'=>Holds bP w'∧HasObj bF [V3 aw ax ay,V3 az aA aB] w'∧HasObj ae [V3 A a b,V3 B c d] w') (fun w'=>True) 5 [] mixed ⟨aI.hasK kr,aI.hasObj m3,aI.hasObj m9⟩ (fun _=>trivial) (gh (fun _ h=>rh_loadmS (ds:=[V3 aw ax ay,V3 az aA aB]) tf33 rfl rfl rfl h.2.1) (gh (fun _ h=>rh_loadmS (ds:=[V3 A a b,V3 B c d]) tf25 rfl rfl rfl h.2.2) (gn ?_)))
 obtain⟨fw,db,dc⟩:=ob bf
 refine lk co19 ((bag_laws_toConf F) aI.enter0 (SliceAt.mono ((((((((G.le.trans R.le).trans H.le).trans J.le).trans T.le).trans m.le).trans q.le).trans s.le).trans x.le) am) (SliceAt.mono ((((((((G.le.trans R.le).trans H.le).trans J.le).trans T.le).trans m.le).trans q.le).trans s.le).trans x.le) an) db) ?_
 rintro fx fy ⟨fz,fA,fB,fC,fD,fE,fF,B193,rfl,y,bR,bS⟩
 have dd:=bR.mono only_le
 have de:=bS.mono only_le
 have aJ:=(aI.c0 y).t11
 refine wl_nil (qh ⟨aJ.hasK y.le,aJ.hasObj m4,aJ.hasObj m10⟩ (fun _=>trivial) (gn ?_))
 obtain⟨fG,df,dg⟩:=ob dc
 refine lk co23 (ok_laws_eqConf F aJ.enter0 (SliceAt.mono (((q.le.trans s.le).trans x.le).trans y.le) bD) (SliceAt.mono (((q.le.trans s.le).trans x.le).trans y.le) bE) dd de df) ?_
 rintro fH fI ⟨bT,rfl,I⟩
 have aK:=(aJ.c0 I).t11
 refine wl_nil (qh ⟨aK.hasK (y.le.trans I.le),aK.hasObj m4,aK.hasObj m10⟩ (fun _=>trivial) (gt (rv_not rfl) (gd' (qe_seq (wcc dg rfl (fun dh bg=>?_) (fun dh bg=>?_))))))
 ·refine sr (lv (r_f rfl) (nq (rr ?_)))
  cases oi bg
  exact ey results5 ⟨bT,rfl,aK.s⟩
 refine wc_skip (qs (wc_seq ?_))
 have aL:=aK.drew
 refine wh1 (fun w'=>Holds bT w'∧HasObj bK [V3 aC aD aE,V3 aF aG aH] w'∧HasObj af [V3 C f i,V3 D k l] w') (fun w'=>True) 5 [] mixed ⟨aL.hasK kr,aL.hasObj m2,aL.hasObj m9⟩ (fun _=>trivial) (gh (fun _ h=>rh_loadmS (ds:=[V3 aC aD aE,V3 aF aG aH]) tf46 rfl rfl rfl h.2.1) (gh (fun _ h=>rh_loadmS (ds:=[V3 C f i,V3 D k l]) tf59 rfl rfl rfl h.2.2) (gn ?_)))
 obtain⟨fJ,di,dj⟩:=ob bg
 refine lk co31 ((bag_laws_toSeg F) aL.enter0 (SliceAt.mono ((((((((((G.le.trans R.le).trans H.le).trans J.le).trans T.le).trans m.le).trans q.le).trans s.le).trans x.le).trans y.le).trans I.le) ao) (SliceAt.mono ((((((((((G.le.trans R.le).trans H.le).trans J.le).trans T.le).trans m.le).trans q.le).trans s.le).trans x.le).trans y.le).trans I.le) ap) di) ?_
 rintro fK fL ⟨fM,fN,fO,fP,fQ,fR,fS,B225,rfl,O,bU,bV⟩
 have dk:=bU.mono only_le
 have dl:=bV.mono only_le
 have aM:=(aL.c0 O).t12
 refine wl_nil (qh ⟨aM.hasK O.le,aM.hasObj m3,aM.hasObj m10⟩ (fun _=>trivial) (gn ?_))
 obtain⟨fT,dm,dn⟩:=ob dj
 refine lk co22 (ok_laws_eqSeg F aM.enter0 (SliceAt.mono ((((s.le.trans x.le).trans y.le).trans I.le).trans O.le) bI) (SliceAt.mono ((((s.le.trans x.le).trans y.le).trans I.le).trans O.le) bJ) dk dl dm) ?_
 rintro fU fV ⟨dp,rfl,S⟩
 have ai:=(aM.c0 S).t12
 refine wl_nil (qh ⟨ai.hasK (O.le.trans S.le),ai.hasObj m3,ai.hasObj m10⟩ (fun _=>trivial) (gt (rv_not rfl) (gd' (qe_seq (wcc dn rfl (fun dq bh=>?_) (fun dq bh=>?_))))))
 ·refine sr (lv (r_f rfl) (nq (rr ?_)))
  cases oi bh
  exact ey results5 ⟨dp,rfl,ai.s⟩
 refine wc_skip (qr (lv (rv_assign (v:=V6 1) rfl) (nr (lv (rv_loadmS (ds:=[V3 aw ax ay,V3 az aA aB]) tf33 rfl m5 ai rfl rfl) (mv rfl ?_)))))
 obtain⟨fW,dr,dt⟩:=ob bh
 have ac:=ai.f6
 have hd253: ∀b∈B140,b∉B115:=SH.bag_off ac _ m4
 have bW:=SliceAt.mono (only_but2 hd253) (SliceAt.mono (only_mono (((((s.le.trans x.le).trans y.le).trans I.le).trans O.le).trans S.le) fun _ h=>h) bG)
 have fX:=bW.mono only_le
 have hd256: ∀b∈B140,b∉B115:=SH.bag_off ac _ m4
 have bX:=SliceAt.mono (only_but2 hd256) (SliceAt.mono (only_mono (((((s.le.trans x.le).trans y.le).trans I.le).trans O.le).trans S.le) fun _ h=>h) bH)
 have fY:=bX.mono only_le
 have hd259: ∀b∈B169,b∉B115:=SH.bag_off ac _ m2
 have ho260:=RowO.loc (RowO.mono ho170 ((((x.le.trans y.le).trans I.le).trans O.le).trans S.le)) fun b hb i u e=>(but_at (hd259 b hb) i).trans e
 have fZ:=RowO.sl ho260
 have hd262: ∀b∈B193,b∉B115:=SH.bag_off ac _ m1
 have bY:=SliceAt.mono (only_but2 hd262) (SliceAt.mono (only_mono ((I.le.trans O.le).trans S.le) fun _ h=>h) bR)
 have ga:=bY.mono only_le
 have hd265: ∀b∈B193,b∉B115:=SH.bag_off ac _ m1
 have bZ:=SliceAt.mono (only_but2 hd265) (SliceAt.mono (only_mono ((I.le.trans O.le).trans S.le) fun _ h=>h) bS)
 have gb:=bZ.mono only_le
 have hd268: ∀b∈B225,b∉B115:=SH.bag_off ac _ m0
 have ca:=SliceAt.mono (only_but2 hd268) (bU.mono (only_mono S.le fun _ h=>h))
 have gc:=ca.mono only_le
 have hd271: ∀b∈B225,b∉B115:=SH.bag_off ac _ m0
 have cb:=SliceAt.mono (only_but2 hd271) (bV.mono (only_mono S.le fun _ h=>h))
 have gd:=cb.mono only_le
 have hM274:=SH.toMk hS.holds ac
 refine lk co25 (ok_laws_markConf F hM274.e1 (SliceAt.mono (only_mono ((((((q.le.trans s.le).trans x.le).trans y.le).trans I.le).trans O.le).trans S.le) fun _ h=>h) bB) (SliceAt.mono (only_mono ((((((q.le.trans s.le).trans x.le).trans y.le).trans I.le).trans O.le).trans S.le) fun _ h=>h) bC) (by decide :rng64 1) dr) ?_
 rintro ge gg ⟨gj,rfl,W,du⟩
 have cc:SH _ _ _ _ _ [_,_,_,_,_,_,_,_,_,_,_]:=SH.drop (SH.call (Lin:=[_]) hM274 W)
 refine av rfl (nr (lv (rv_loadmS (ds:=[V3 aC aD aE,V3 aF aG aH]) tf46 rfl m3 cc rfl rfl) (mv rfl ?_)))
 obtain⟨gk,dv,dw⟩:=ob dt
 have aj:=cc.f4
 have hd285: ∀b∈B169,b∉B140:=SH.bag_off aj _ m2
 have ho286:=RowO.loc (RowO.mono ho260 W.le) fun b hb i u e=>(but_at (hd285 b hb) i).trans e
 have dx:=RowO.sl ho286
 have hd288: ∀b∈B193,b∉B140:=SH.bag_off aj _ m1
 have dy:=SliceAt.mono (only_but2 hd288) (bY.mono (only_mono W.le fun _ h=>h))
 have gl:=dy.mono only_le
 have hd291: ∀b∈B193,b∉B140:=SH.bag_off aj _ m1
 have dz:=SliceAt.mono (only_but2 hd291) (bZ.mono (only_mono W.le fun _ h=>h))
 have gm:=dz.mono only_le
 have hd294: ∀b∈B225,b∉B140:=SH.bag_off aj _ m0
 have dA:=SliceAt.mono (only_but2 hd294) (ca.mono (only_mono W.le fun _ h=>h))
 have go:=dA.mono only_le
 have hd297: ∀b∈B225,b∉B140:=SH.bag_off aj _ m0
 have dB:=SliceAt.mono (only_but2 hd297) (cb.mono (only_mono W.le fun _ h=>h))
 have gp:=dB.mono only_le
 have hM300:=SH.toMk hS.holds aj
 refine lk co27 (ok_laws_markSeg F hM300.e1 (bW.mono (only_mono W.le fun _ h=>h)) (bX.mono (only_mono W.le fun _ h=>h)) du dv) ?_
 rintro gq gr ⟨cd,rfl,ab,gv⟩
 have bi:SH _ _ _ _ _ [_,_,_,_,_,_,_,_,_,_]:=SH.drop (SH.call (Lin:=[_]) hM300 ab)
 refine av rfl (ns (wc_seq ?_))
 obtain⟨dC,dD,dE⟩:=ob dw
 refine wc_cutg (IV w K [] cd [(2,sv q2),(3,sv q3),(4,pt ae),(5,pt af),(10,V3 bb bc bd),(13,V3 bL bM bN),(77,.bool dC)] [obj ae [V3 A a b,V3 B c d] 25,obj af [V3 C f i,V3 D k l] 59,tail (V3 bb bc bd) 134 2,bag B225,bag B193,bag B169,bag B84,bag B65]) ?_ ?_
 ·refine wc_region (mv rfl (lv (rv_lss rfl rfl) (mv rfl (bt dD (fun X bj=>?_) (fun X bj=>?_)))))
  ·refine lu X (lu X (lu X (lu X (lv (p_t rfl X rfl) (wl_nil ?_)))))
   cases oi bj
   exact qd ⟨cd,rfl,bi.f7.f7.f4.f4.f4.f7.f8.f9.s,kr⟩
  refine lg X (rv_move rfl) (lg X (rv_move rfl) ?_)
  obtain⟨gw,dF,dG⟩:=ob bj
  refine wl_call (wg rfl rfl X) rfl (rt_call (vs:=[V3 bL bM bN,V3 bb bc bd]) co33 rfl) (ok_laws_eqPostS F bi.enter0 (dx.mono ab.le) (SliceAt.mono ((le_but ((le_but (((((((m.le.trans q.le).trans s.le).trans x.le).trans y.le).trans I.le).trans O.le).trans S.le) U.holds fun b hb=>(m.bag_new b hb).1).trans W.le) (fun b o v e=>Y.holds b o v (m.le b o v e)) fun b hb=>(q.bag_new b hb).1).trans ab.le) be) dF) ?_
  rintro gx gy ⟨dH,rfl,ce⟩
  refine⟨_,rfl,?_⟩
  have dI:=(bi.c0 ce).t10
  refine lg X (rv_not rfl) (lv (rv_pick_f rfl X rfl) (wl_nil ?_))
  cases oi dG
  exact qd ⟨dH,rfl,dI.f7.f7.f4.f4.f4.f7.f8.f9.s,ce.le⟩
 rintro _ gz ⟨dJ,rfl,cf,ak⟩
 refine qe_seq (wcc dE rfl (fun dK bk=>?_) (fun dK bk=>?_))
 ·refine sr (lv (r_f rfl) (nq (rr ?_)))
  cases oi bk
  exact ey results5 ⟨dJ,rfl,cf.s⟩
 refine wc_skip (qr (lv (rv_assign (v:=V6 1) rfl) (nr (mv rfl (mv rfl ?_)))))
 obtain⟨gA,dL,dM⟩:=ob bk
 refine lk co34 ((xo_laws_markPostS F) hS.holds cf.f5 (RowO.mono ho286 (ab.le.trans ak)) (by decide :rng64 1) dL) ?_
 rintro gB gC ⟨gD,rfl,dN,ho355,aN,gE,_⟩
 have cg:=RowO.sl ho355
 have ch:SH _ _ _ _ _ [_,_,_,_,_,_,_,_]:=dN
 refine av rfl (nr (lv (rv_assign (v:=V6 1) rfl) (nr (mv rfl (mv rfl ?_)))))
 obtain⟨gF,dO,dP⟩:=ob dM
 refine lk co35 (ok_laws_heldPostS F ch.enter0 cg (by decide :rng64 1) dO) ?_
 rintro gG gH ⟨bl,rfl,ag,gI⟩
 have bm:=(ch.c0 ag).t8
 refine av rfl (nsr (mv rfl (lv (rv_lss rfl rfl) (nq (wcc dP rfl (fun dQ bn=>?_) (fun dQ bn=>?_))))))
 ·refine sr (lv (r_f rfl) (nq (rr ?_)))
  cases oi bn
  exact ey results5 ⟨bl,rfl,bm.s⟩
 refine wc_skip (qs (sr (mv rfl (mv rfl (lv (rv_neq rfl rfl) (nq (wcc bn rfl (fun dR bo=>?_) (fun dR bo=>?_))))))))
 ·refine sr (lv (r_f rfl) (nq (rr ?_)))
  cases oi bo
  exact ey results5 ⟨bl,rfl,bm.s⟩
 refine wc_skip (qs ?_)
 have aO:=bm.drew
 refine j_0 (fun w'=>Holds bl w'∧HasObj ae [V3 A a b,V3 B c d] w'∧HasObj af [V3 C f i,V3 D k l] w') 8 [] mixed ⟨aO.hasK kr,aO.hasObj m1,aO.hasObj m2⟩ (jh 0 rfl (fun _ h=>rh_loadmS (ds:=[V3 A a b,V3 B c d]) tf25 rfl rfl rfl h.2.1) (jh 2 rfl (fun _ h=>rh_loadmS (ds:=[V3 C f i,V3 D k l]) tf59 rfl rfl rfl h.2.2) (jv 4 rfl (rv_move rfl) (jv 5 rfl (rv_move rfl) (j1 1 rfl ?_)))))
 obtain⟨gJ,dS,dT⟩:=ob bo
 refine lk co19 ((bag_laws_toConf F) aO.enter0 (SliceAt.mono (((((((G.le.trans R.le).trans H.le).trans J.le).trans T.le).trans (le_but (((le_but ((le_but (((((((m.le.trans q.le).trans s.le).trans x.le).trans y.le).trans I.le).trans O.le).trans S.le) U.holds fun b hb=>(m.bag_new b hb).1).trans W.le) (fun b o v e=>Y.holds b o v (m.le b o v e)) fun b hb=>(q.bag_new b hb).1).trans ab.le).trans ak) (fun b o v e=>aa.holds b o v ((m.le.trans q.le) b o v e)) fun b hb=>(s.bag_new b hb).1)).trans aN).trans ag.le) am) (SliceAt.mono (((((((G.le.trans R.le).trans H.le).trans J.le).trans T.le).trans (le_but (((le_but ((le_but (((((((m.le.trans q.le).trans s.le).trans x.le).trans y.le).trans I.le).trans O.le).trans S.le) U.holds fun b hb=>(m.bag_new b hb).1).trans W.le) (fun b o v e=>Y.holds b o v (m.le b o v e)) fun b hb=>(q.bag_new b hb).1).trans ab.le).trans ak) (fun b o v e=>aa.holds b o v ((m.le.trans q.le) b o v e)) fun b hb=>(s.bag_new b hb).1)).trans aN).trans ag.le) an) dS) ?_
 rintro gK gL ⟨gM,gN,gO,gP,gQ,gR,gS,B381,rfl,ad,dU,dV⟩
 have dW:=dU.mono only_le
 have dX:=dV.mono only_le
 have aP:=(aO.c0 ad).t9
 refine j_o ⟨aP.hasK ad.le,aP.hasObj m2,aP.hasObj m3⟩ (j1 3 rfl ?_)
 obtain⟨gT,dY,dZ⟩:=ob dT
 refine lk co31 ((bag_laws_toSeg F) aP.enter0 (SliceAt.mono ((((((((G.le.trans R.le).trans H.le).trans J.le).trans T.le).trans (le_but (((le_but ((le_but (((((((m.le.trans q.le).trans s.le).trans x.le).trans y.le).trans I.le).trans O.le).trans S.le) U.holds fun b hb=>(m.bag_new b hb).1).trans W.le) (fun b o v e=>Y.holds b o v (m.le b o v e)) fun b hb=>(q.bag_new b hb).1).trans ab.le).trans ak) (fun b o v e=>aa.holds b o v ((m.le.trans q.le) b o v e)) fun b hb=>(s.bag_new b hb).1)).trans aN).trans ag.le).trans ad.le) ao) (SliceAt.mono ((((((((G.le.trans R.le).trans H.le).trans J.le).trans T.le).trans (le_but (((le_but ((le_but (((((((m.le.trans q.le).trans s.le).trans x.le).trans y.le).trans I.le).trans O.le).trans S.le) U.holds fun b hb=>(m.bag_new b hb).1).trans W.le) (fun b o v e=>Y.holds b o v (m.le b o v e)) fun b hb=>(q.bag_new b hb).1).trans ab.le).trans ak) (fun b o v e=>aa.holds b o v ((m.le.trans q.le) b o v e)) fun b hb=>(s.bag_new b hb).1)).trans aN).trans ag.le).trans ad.le) ap) dY) ?_
 rintro gU gV ⟨gW,gX,gY,gZ,hc,hd,he,B400,rfl,ah,ea,eb⟩
 have ec:=ea.mono only_le
 have ed:=eb.mono only_le
 have aQ:=(aP.c0 ah).t10
 refine j_o ⟨aQ.hasK (ad.le.trans ah.le),aQ.hasObj m3,aQ.hasObj m4⟩ (j1 6 rfl ?_)
 obtain⟨hf,ee,ef⟩:=ob dZ
 refine lk co32 ((own_impl_SegPosts F) aQ.enter0 (dW.mono ah.le) (dX.mono ah.le) ec ed aU aV ee) ?_
 rintro hg hh ⟨hi,hj,hk,hn,B423,rfl,aT,ho424⟩
 have eg:=RowO.sl ho424
 have aR:=(aQ.c0 aT).t11
 refine j_o ⟨aR.hasK ((ad.le.trans ah.le).trans aT.le),aR.hasObj m4,aR.hasObj m5⟩ (jv 7 rfl (rv_assign rfl) (jd (qs (sr (mv rfl (mv rfl ?_))))))
 obtain⟨ho,eh,ei⟩:=ob ef
 refine lk co33 (ok_laws_eqPostS F aR.enter0 eg (SliceAt.mono ((((((le_but (((le_but ((le_but (((((((m.le.trans q.le).trans s.le).trans x.le).trans y.le).trans I.le).trans O.le).trans S.le) U.holds fun b hb=>(m.bag_new b hb).1).trans W.le) (fun b o v e=>Y.holds b o v (m.le b o v e)) fun b hb=>(q.bag_new b hb).1).trans ab.le).trans ak) (fun b o v e=>aa.holds b o v ((m.le.trans q.le) b o v e)) fun b hb=>(s.bag_new b hb).1).trans aN).trans ag.le).trans ad.le).trans ah.le).trans aT.le) be) eh) ?_
 rintro hp hq ⟨ej,rfl,cj⟩
 have bp:=(aR.c0 cj).t11
 refine lv (rv_not rfl) (nq (wcc ei rfl (fun ek bq=>?_) (fun ek bq=>?_)))
 ·refine sr (lv (r_f rfl) (nq (rr ?_)))
  cases oi bq
  exact ey results5 ⟨ej,rfl,bp.s⟩
 refine wc_skip (qr (lv (rv_assign (v:=V6 1) rfl) (nr (mv rfl (mv rfl ?_)))))
 obtain⟨hr,el,em⟩:=ob bq
 refine lk co35 (ok_laws_heldPostS F bp.enter0 (SliceAt.mono ((((ag.le.trans ad.le).trans ah.le).trans aT.le).trans cj.le) cg) (by decide :rng64 1) el) ?_
 rintro ht hu ⟨br,rfl,en,hv⟩
 have bs:=(bp.c0 en).t11
 refine av rfl (nsr (mv rfl (lv (rv_lss rfl rfl) (nq (wcc em rfl (fun eo bu=>?_) (fun eo bu=>?_))))))
 ·refine sr (lv (r_f rfl) (nq (rr ?_)))
  cases oi bu
  exact ey results5 ⟨br,rfl,bs.s⟩
 refine wc_skip (qs (sr (mv rfl (mv rfl (lv (rv_neq rfl rfl) (nq (wcc bu rfl (fun ep bv=>?_) (fun ep bv=>?_))))))))
 ·refine sr (lv (r_f rfl) (nq (rr ?_)))
  cases oi bv
  exact ey results5 ⟨br,rfl,bs.s⟩
 refine wc_skip (qr (lv (r_t rfl) (nq (wc_ret ?_))))
 cases oi bv
 exact ey results5 ⟨br,rfl,bs.s⟩
end Go.Proofs.YtpjefkdclnmlfaaGreat
