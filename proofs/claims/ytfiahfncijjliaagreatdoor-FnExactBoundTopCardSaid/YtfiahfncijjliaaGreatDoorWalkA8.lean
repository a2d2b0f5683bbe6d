/-
 Walks of the functions. Printed by gen.py.
-/
import Derived.Test.YtfiahfncijjliaaGreatDoorWalkA0
import Derived.Test.YtfiahfncijjliaaGreatDoorWalkA1
import Derived.Test.YtfiahfncijjliaaGreatDoorWalkA2
import Derived.Test.YtfiahfncijjliaaGreatDoorWalkA4
import Derived.Test.YtfiahfncijjliaaGreatDoorWalkA5
import Derived.Test.YtfiahfncijjliaaGreatDoorWalkA6
set_option linter.unusedVariables false
set_option linter.unusedSectionVars false
set_option maxRecDepth 100000
namespace Go.Proofs.YtfiahfncijjliaaGreatDoor
set_option maxHeartbeats 4000000
open Go Go.Fk Go.RowKit Tryz
variable (F:Nat){w:World}{K:KMap}{Z:List Nat}{g1 g2 g3:Nat}{A B C D G H I J O R S T:Option Addr}{a b c d f i k l m n o p q s v x y aa ab ac ad ae af ag:Nat}
variable [dr:Dr]

theorem ok_impl_scorer_bounds {q0:GScorer}{q1:Str}{q2:Str}{r:(List GBlock)}(hS:SH w K Z w K [obj g1 [V3 A a b,V3 B c d,V3 C f i,V3 D k l] 69])(aw:SliceAt tStr K A a b q0.c_.Stops)(ax:SliceAt tGSyn K B c d q0.c_.Syns)(ay:SliceAt tGDoc K C f i q0.s_.Docs)(az:SliceAt tGEntry K D k l q0.s_.Entries)(aA:q1.length≤maxLen)(aB:q2.length≤maxLen)(hm:M.impl_scorer_bounds F q0 q1 q2=some r):
  Calls prog 36 #[.pointer (some ⟨g1,0,none⟩),sv q1,sv q2] w fun e w'=>∃a_1 n_2 c_3 K',e= .returned (V3 a_1 n_2 c_3)∧SH w K Z w' K' [tail (V3 a_1 n_2 c_3) 73 2,obj g1 [V3 A a b,V3 B c d,V3 C f i,V3 D k l] 69]∧SliceAt tGBlock K' a_1 n_2 c_3 r:=by
 rw [M.impl_scorer_bounds] at hm
 refine ci func36 rfl ntmps36 (sr (lv (r_n rfl) (nr (wl_buildSlice0R tGBlock wn rfl underlying32 tf73 hS fun aN bU aO=>(av rfl (nsr (mv rfl (lv (rv_nilCheck rfl) (fa ff69_1 rfl ?_)))))))))
 refine mv rfl (mv rfl ?_)
 obtain⟨aC,aP,aQ⟩:=ob hm
 have aD:=aO.f1
 refine lk co76 (ok_impl_Seg_posts__ofGScorer1 F aD.e1 aw ax ay az aA aB aP) ?_
 rintro bV bW ⟨aE,aF,aG,am,rfl,I,an⟩
 have aR:=(aD.c1 I).t2
 refine lv (rv_len underlying112 rfl an) (lv (r_m rfl) (nq ?_))
 obtain⟨aH,aS,aT⟩:=ob aQ
 refine wc_cutg (fun E' w'=>∃X J Y cs46 aa,E'=[(0,pt g1),(7,V3 X J Y)]∧SH w K Z w' aa [obj g1 [V3 A a b,V3 B c d,V3 C f i,V3 D k l] 69,rowI (V3 X J Y) cs46 73 2]∧KLe am aa∧RowAt true tGBlock aa cs46 aH∧J=aH.length) ?_ ?_
 ·refine wc_block ?_
  obtain⟨bX,aU,aV⟩:=ob aS
  refine qF (fun (ao:Nat) (ab:(List GBlock)) E' w'=>∃G y H cs61 s,E'=[(0,pt g1),(1,sv q1),(2,sv q2),(7,V3 G y H),(17,V3 aE aF aG),(18,V6 (aC.length:Int)),(19,V6 ((ao:Nat):Int))]∧SH w K Z w' s [obj g1 [V3 A a b,V3 B c d,V3 C f i,V3 D k l] 69,rowI (V3 G y H) cs61 73 2]∧KLe am s∧RowAt true tGBlock s cs61 ab∧y=ab.length) aU ⟨aN,0,0,[],am,rfl,aR,kr,(RowAt.nil tGBlock _),rfl⟩ ?_ ?_
  ·rintro ao ab _ aW bY hi65 aX ⟨G,y,H,cs61,s,rfl,ac,x,hrow62,hm63⟩
   refine sr (lv (rv_lss rfl rfl) (ns (wc_cond_t rfl (decide_eq_true (by omega)) (wc_skip (qe_seq (wc_seq (wc_block (sr (mv rfl ?_)))))))))
   obtain⟨m,aY,aZ⟩:=ob aX
   refine li underlying112 tf119 (an.mono x) aY fun ba bb bZ bc bd=>?_
   obtain⟨ad,ae,af,rfl,aI,ca⟩:=bc
   have be:AtK _ ba bb [V6 m.Doc,V3 ad ae af]:=bd
   refine lv (rv_loadS tf119 rfl ac be rfl) (al tf119 ac fun ag cb bf=>?_)
   have bg:SH _ _ _ _ _ [obj ag [V6 0,V3 none 0 0] 119,_,_]:=bf
   refine av rfl (lw [V6 m.Doc,V3 ad ae af] tf119 bg fun cc aJ=>(nsr (mv rfl ?_)))
   obtain⟨cd,bh,bi⟩:=ob aZ
   refine lv (rv_rem rfl rfl bh) (lv (rv_eql rfl rfl) (nq ?_))
   obtain⟨O,bj,bk⟩:=ob bi
   refine wc_cutg (fun E' w'=>∃R S ah cs101 T,E'=[(0,pt g1),(1,sv q1),(2,sv q2),(7,V3 R S ah),(9,pt ag),(17,V3 aE aF aG),(18,V6 (aC.length:Int)),(19,V6 ((ao:Nat):Int))]∧SH w K Z w' T [obj g1 [V3 A a b,V3 B c d,V3 C f i,V3 D k l] 69,obj ag [V6 m.Doc,V3 ad ae af] 119,rowI (V3 R S ah) cs101 73 2]∧KLe s T∧RowAt true tGBlock T cs101 O∧S=O.length) ?_ ?_
   ·refine wcc bj rfl (fun bl ap=>?_) (fun bl ap=>?_)
    ·refine wc_region (mv rfl (lv (rv_build (cs:=#[V6 0,V6 0]) sp73 tf73 rfl (by kernel_rfl)) (lb tGBlock (.agg #[V6 0,V6 0]) [V6 0,V6 0] (GBlock.mk (0:Int) (0:Int)) underlying32 tf73 ⟨rfl,d_0,d_0⟩ aJ fun ce cf bm aK bn bo=>?_)))
     obtain⟨cg,bp,bq⟩:=ob ap
     refine wl_appendR (t:=tGBlock) wn rfl underlying32 tf73 rfl rfl rfl rfl (RowAt.mono aK hrow62) hm63 bn bp bo.f3 fun br bs bu cs119 ch hrow121 hm122 bv=>(av rfl (wl_nil ?_))
     cases oi bq
     exact qd ⟨br,bs,bu,cs119,bm,rfl,bv.f2.f3.s,aK,hrow121,hm122⟩
    refine wc_skip ?_
    cases oi ap
    exact qd ⟨G,y,H,cs61,s,rfl,aJ.f2.f1.f2,kr,hrow62,hm63⟩
   rintro _ cj ⟨R,S,ah,cs101,T,rfl,aq,U,hrow102,hm103⟩
   refine qr (mv rfl (mv rfl (lv (rv_lenRow underlying32 rfl hm103) (lv (rv_sub rfl rfl) ?_))))
   obtain⟨o,V,bx⟩:=ob bk
   obtain⟨ck,ai⟩:=SH.rowI_at aq m2 hm103 V
   obtain⟨cl,bz,bA⟩:=RowAt.at hrow102 V
   obtain⟨rfl,cm,bB⟩:=bz
   have bC: ∀(j:Nat) (d:Value),[V6 o.Last,V6 o.Most][j]? =some d→cs101[(w64 ((O.length:Int)-(1:Int))).toNat*tGBlock.size+j]? =some d:=bA
   refine lv (rv_indexI (t:=tGBlock) underlying32 tf73 rfl rfl ai hm103 V) (av rfl (nr (mv rfl (fl ff119_0 rfl tf3 m1 aq rfl (lv (rv_nilCheck rfl) (fa ff73_0 rfl (wl_storeI (t:=tGBlock) (off:=0) (ds:=[V6 o.Last,V6 o.Most]) (v:=V6 m.Doc) (u:=.agg #[V6 m.Doc,V6 o.Most]) (e:=(GBlock.mk m.Doc o.Most)) wn tf3 rfl rfl rfl rfl (by simp [Value.cells,Value.oneCell']) ai aq.f2 hrow102 hm103 V bC rfl rfl ⟨rfl,aI,bB⟩ fun cs142 cn hrow144 hm145 bD=>?_)))))))
   have ar:=getI_set (e:=(GBlock.mk m.Doc o.Most)) V
   obtain⟨cp,bE,bF⟩:=RowAt.at hrow144 ar
   obtain⟨rfl,bG,bH⟩:=bE
   have aL: ∀(j:Nat) (d:Value),[V6 ((GBlock.mk m.Doc o.Most).Last),V6 ((GBlock.mk m.Doc o.Most).Most)][j]? =some d→cs142[(w64 ((O.length:Int)-(1:Int))).toNat*tGBlock.size+j]? =some d:=bF
   refine nq ?_
   have aj:=bD.drew
   refine wh1 (fun w'=>Holds T w'∧HasObj ag [V6 m.Doc,V3 ad ae af] w') (fun w'=>HasRow R cs142 w') 14 [(4,11),(4,12),(4,13),(4,14),(11,12),(11,13),(11,14),(12,13),(13,14)] mixed ⟨aj.hasK kr,aj.hasObj m2⟩ (fun _=>aj.hasRow (.head _)) (gt (rv_move rfl) (gt (rv_move rfl) (gt (rv_nilCheck rfl) (gt (rv_fieldAddr ff73_1 rfl) (gf (fun _ h=>(rh_loadI1 tf3 rfl rfl (aL 1 _ rfl) ai h)) (gt (rv_move rfl) (gt (rv_move rfl) (gt (rv_move rfl) (gt (rv_fieldAddr ff119_0 rfl) ?_)))))))))
   refine gh (fun _ h=>rh_loadm1 tf3 rfl rfl h.2) (gn ?_)
   obtain⟨q,bI,bJ⟩:=ob bx
   have aM:=aj.f1
   refine lk co55 (ok_impl_scorer_points F aM.e1 (aw.mono ((I.le.trans x).trans U)) (ax.mono ((I.le.trans x).trans U)) (ay.mono ((I.le.trans x).trans U)) (az.mono ((I.le.trans x).trans U)) aA aB aI bI) ?_
   rintro cq cr ⟨bK,rfl,W,bL⟩
   have ak:=(aM.c1 W).t3
   refine wl_nil (qh ⟨ak.hasK W.le,ak.hasObj m2⟩ (fun _=>ak.hasRow (.tail _ (.head _))) (gt (rv_max2 rfl rfl) (gt (rv_nilCheck rfl) (gt (rv_fieldAddr ff73_1 rfl) (gn (wl_storeI (t:=tGBlock) (off:=1) (ds:=[V6 ((GBlock.mk m.Doc o.Most).Last),V6 ((GBlock.mk m.Doc o.Most).Most)]) (v:=V6 (if q>(GBlock.mk m.Doc o.Most).Most then q else (GBlock.mk m.Doc o.Most).Most)) (u:=.agg #[V6 ((GBlock.mk m.Doc o.Most).Last),V6 (if q>(GBlock.mk m.Doc o.Most).Most then q else (GBlock.mk m.Doc o.Most).Most)]) (e:=(GBlock.mk (GBlock.mk m.Doc o.Most).Last (if q>(GBlock.mk m.Doc o.Most).Most then q else (GBlock.mk m.Doc o.Most).Most))) wn tf3 rfl rfl rfl rfl (by simp [Value.cells,Value.oneCell']) ai ak.f1 (RowAt.mono W.le hrow144) hm145 ar aL rfl rfl ⟨rfl,bG,(rng_max bH bL)⟩ fun cs167 ct hrow169 hm170 au=>?_))))))
   have bM:=getI_set (e:=(GBlock.mk (GBlock.mk m.Doc o.Most).Last (if q>(GBlock.mk m.Doc o.Most).Most then q else (GBlock.mk m.Doc o.Most).Most))) ar
   obtain⟨cu,bN,bO⟩:=RowAt.at hrow169 bM
   obtain⟨rfl,cv,cw⟩:=bN
   have cx: ∀(j:Nat) (d:Value),[V6 ((GBlock.mk (GBlock.mk m.Doc o.Most).Last (if q>(GBlock.mk m.Doc o.Most).Most then q else (GBlock.mk m.Doc o.Most).Most)).Last),V6 ((GBlock.mk (GBlock.mk m.Doc o.Most).Last (if q>(GBlock.mk m.Doc o.Most).Most then q else (GBlock.mk m.Doc o.Most).Most)).Most)][j]? =some d→cs167[(w64 ((O.length:Int)-(1:Int))).toNat*tGBlock.size+j]? =some d:=bO
   refine wl_nil (qh ⟨au.hasK W.le,au.hasObj m2⟩ (fun h=>nomatch h) (gd' (qe_block (qg (lv (rv_add_to rfl rfl (w64_succ hi65 (SliceAt.max an))) (mv rfl (wl_nil ?_)))))))
   cases oi bJ
   exact qd ⟨R,S,ah,cs167,bK,rfl,au.f1.s,((x.trans U).trans W.le),hrow169,hm170⟩
  rintro ab _ aW bP ⟨G,y,H,cs61,s,rfl,ac,x,hrow62,hm63⟩
  subst bP
  refine sr (lv (rv_lss rfl rfl) (ns (wc_cond_f rfl (decide_eq_false (by omega)) (wc_exit (qe_then_exit (qe_then_exit (qe_block_eq ?_)))))))
  cases oi aV
  exact qd ⟨G,y,H,cs61,s,rfl,ac,x,hrow62,hm63⟩
 rintro _ cy ⟨X,J,Y,cs46,aa,rfl,bQ,cz,hrow47,hm48⟩
 refine qr (mv rfl (av rfl (nq (wc_ret ?_))))
 obtain⟨bR,cA,bS,bT⟩:=SH.freezeI bQ.f1 hrow47 hm48
 cases oi aT
 exact ey results36 ⟨X,J,Y,bR,rfl,bT,bS⟩

theorem ok_impl_BoundTop {q0:GConf}{q1:GSeg}{q2:Str}{q3:List Str}{q4:Int}{r:(List GHit)×Int}(hS:SH w K [] w K [])(bf:SliceAt tStr K A a b q0.Stops)(bg:SliceAt tGSyn K B c d q0.Syns)(an:SliceAt tGDoc K C f i q1.Docs)(bv:SliceAt tGEntry K D k l q1.Entries)(bz:q2.length≤maxLen)(aE:SliceAt tStr K G m n q3)(cb:rng64 q4)(hm:M.impl_BoundTop F q0 q1 q2 q3 q4=some r):
  Calls prog 21 #[.agg #[V3 A a b,V3 B c d],.agg #[V3 C f i,V3 D k l],sv q2,V3 G m n,V6 q4] w fun e w'=>∃a_1 n_2 c_3 K',e= .returned (.tuple #[V3 a_1 n_2 c_3,V6 r.2])∧SH w K [] w' K' [tail (V3 a_1 n_2 c_3) 92 2]∧SliceAt tGHit K' a_1 n_2 c_3 r.1∧rng64 r.2:=by
 rw [M.impl_BoundTop] at hm
 refine ci func21 u ntmps21 (sr (bx u hS fun ag gA cF=>?_))
 have cG:SH _ _ _ _ _ [obj ag [V3 A a b,V3 B c d] 36]:=cF
 refine bx u cG fun I gB cH=>?_
 have bh:SH _ _ _ _ _ [obj I [V3 C f i,V3 D k l] 41,_]:=cH
 refine lv (r_n u) (lv (r_0 u) (ns ?_))
 obtain⟨cI,cJ,cK⟩:=ob hm
 refine wc_cutg (IV w K [] K [(2,sv q2),(3,V3 G m n),(4,V6 q4),(5,pt ag),(6,pt I),(12,.bool cI)] [obj ag [V3 A a b,V3 B c d] 36,obj I [V3 C f i,V3 D k l] 41]) ?_ ?_
 ·refine wc_region (lv (rv_loadmS (ds:=[V3 A a b,V3 B c d]) tf36 u m1 bh u u) (lv (rv_loadmS (ds:=[V3 C f i,V3 D k l]) tf41 u m0 bh u u) ?_))
  obtain⟨gC,cL,cM⟩:=ob cJ
  refine lk co35 (ok_impl_SegOk F bh.enter0 bf bg an bv cL) ?_
  rintro gD gE ⟨cN,rfl,au⟩
  have bA:=(bh.c0 au).t2
  refine mv u (bt cM (fun aw bB=>?_) (fun aw bB=>?_))
  ·refine lg aw (rv_move u) ?_
   obtain⟨gF,cO,cP⟩:=ob bB
   refine wl_call (wg u u aw) u (rt_call (vs:=[sv q2]) co50 u) (ok_impl_WordOk F bA.enter0 bz cO) ?_
   rintro gG gH ⟨cQ,rfl,aF⟩
   refine⟨_,u,?_⟩
   have bC:=(bA.c0 aF).t2
   refine lv (rv_pick_t u aw u) (mv u (bt cP (fun ai bD=>?_) (fun ai bD=>?_)))
   ·refine lg ai (rv_move u) (lg ai (rv_len underlying22 u (aE.mono (au.le.trans aF.le))) ?_)
    obtain⟨gI,cR,cS⟩:=ob bD
    refine wl_call (wg u u ai) u (rt_call (vs:=[V6 (q3.length:Int),V6 1,V6 4]) co51 u) (ok_impl_within F bC.enter0 (aE.mono (au.le.trans aF.le)).rn (by decide :rng64 1) (by decide :rng64 4) cR) ?_
    rintro gJ gK ⟨cT,rfl,bE⟩
    refine⟨_,u,?_⟩
    have bF:=(bC.c0 bE).t2
    refine lv (rv_pick_t u ai u) (mv u (bt cS (fun ax bG=>?_) (fun ax bG=>?_)))
    ·refine lg ax (rv_move u) ?_
     obtain⟨gL,cU,cV⟩:=ob bG
     refine wl_call (wg u u ax) u (rt_call (vs:=[V6 q4,V6 1,V6 16]) co51 u) (ok_impl_within F bF.enter0 cb (by decide :rng64 1) (by decide :rng64 16) cU) ?_
     rintro gM gN ⟨cW,rfl,cc⟩
     refine⟨_,u,?_⟩
     have cX:=(bF.c0 cc).t2
     refine lv (rv_pick_t u ax u) (av u (wl_nil ?_))
     cases oi cV
     exact qd ⟨cW,u,cX.f1,(((au.le.trans aF.le).trans bE.le).trans cc.le)⟩
    refine lu ax (lu ax (lv (p_f u ax u) (av u (wl_nil ?_))))
    cases oi bG
    exact qd ⟨cT,u,bF.f1,((au.le.trans aF.le).trans bE.le)⟩
   refine lu ai (lu ai (lu ai (lv (p_f u ai u) (mv u (lu u (lu u (lv (p_f u u u) (av u (wl_nil ?_)))))))))
   cases oi bD
   exact qd ⟨cQ,u,bC.f1,(au.le.trans aF.le)⟩
  refine lu aw (lu aw (lv (p_f u aw u) (mv u (lu u (lu u (lu u (lv (p_f u u u) (mv u (lu u ?_)))))))))
  refine lu u (lv (p_f u u u) (av u (wl_nil ?_)))
  cases oi bB
  exact qd ⟨cN,u,bA.f1,au.le⟩
 rintro _ gO ⟨gP,rfl,cY,o⟩
 refine qr (b0 tStr underlying22 tf9 cY fun cZ gQ bH q da db=>(av u (nsr (mv u (lv (rv_len underlying22 u (aE.mono (o.trans q))) (lv (r_m u) (nq ?_)))))))
 obtain⟨bi,dc,dd⟩:=ob cK
 refine wc_cutg (fun E' w'=>∃x y H bj,E'=[(2,sv q2),(4,V6 q4),(5,pt ag),(6,pt I),(12,.bool bi.1),(13,V3 x y H)]∧SH w K [] w' bj [obj ag [V3 A a b,V3 B c d] 36,obj I [V3 C f i,V3 D k l] 41,tail (V3 x y H) 9 1]∧KLe bH bj∧SliceAt tStr bj x y H bi.2) ?_ ?_
 ·refine wc_block ?_
  obtain⟨gR,de,df⟩:=ob dc
  refine qF (fun (bk:Nat) (bl:Bool×(List Str)) E' w'=>∃Y aa ab ao,E'=[(2,sv q2),(4,V6 q4),(5,pt ag),(6,pt I),(12,.bool bl.1),(13,V3 Y aa ab),(46,V3 G m n),(47,V6 (q3.length:Int)),(48,V6 ((bk:Nat):Int))]∧SH w K [] w' ao [obj ag [V3 A a b,V3 B c d] 36,obj I [V3 C f i,V3 D k l] 41,tail (V3 Y aa ab) 9 1]∧KLe bH ao∧SliceAt tStr ao Y aa ab bl.2) de ⟨cZ,0,0,bH,u,db.f2.f2,kr,da⟩ ?_ ?_
  ·rintro bk bl _ dg gS hi113 dh ⟨Y,aa,ab,ao,rfl,aG,ay,aP⟩
   refine sr (lv (rv_lss u u) (ns (wc_cond_t u (decide_eq_true (by omega)) (wc_skip (qe_seq (wc_seq (wc_block (sr ?_))))))))
   obtain⟨bI,di,dj⟩:=ob dh
   refine li underlying22 tf9 (aE.mono ((o.trans q).trans ay)) di fun dk dl gT dm dn=>?_
   obtain⟨rfl,cd⟩:=dm
   have dp:AtK _ dk dl [sv bI]:=dn
   refine lv (rv_load1 tf9 u aG (dp 0 _ u)) (av u (ns ?_))
   obtain⟨ce,dq,dr⟩:=ob dj
   refine wc_cutg (IV w K [] ao [(2,sv q2),(4,V6 q4),(5,pt ag),(6,pt I),(12,.bool ce),(13,V3 Y aa ab),(15,sv bI),(46,V3 G m n),(47,V6 (q3.length:Int)),(48,V6 ((bk:Nat):Int))] [obj ag [V3 A a b,V3 B c d] 36,obj I [V3 C f i,V3 D k l] 41,tail (V3 Y aa ab) 9 1]) ?_ ?_
   ·refine wc_region (mv u (mv u (bt dq (fun az bJ=>?_) (fun az bJ=>?_))))
    ·refine lg az (rv_move u) ?_
     obtain⟨gU,dt,du⟩:=ob bJ
     refine wl_call (wg u u az) u (rt_call (vs:=[sv bI]) co50 u) (ok_impl_WordOk F aG.enter0 cd dt) ?_
     rintro gV gW ⟨dv,rfl,cf⟩
     refine⟨_,u,?_⟩
     have dw:=(aG.c0 cf).t3
     refine lv (rv_pick_t u az u) (av u (wl_nil ?_))
     cases oi du
     exact qd ⟨dv,u,dw,cf.le⟩
    refine lu az (lu az (lv (p_f u az u) (av u (wl_nil ?_))))
    cases oi bJ
    exact qd ⟨ao,u,aG,kr⟩
   rintro _ gX ⟨gY,rfl,bK,aA⟩
   refine qr (lv (rv_loadmS (ds:=[V3 A a b,V3 B c d]) tf36 u m0 bK u u) (mv u ?_))
   obtain⟨aQ,dx,dy⟩:=ob dr
   refine lk co52 (ok_impl_TermOf F bK.enter0 (SliceAt.mono (((o.trans q).trans ay).trans aA) bf) (SliceAt.mono (((o.trans q).trans ay).trans aA) bg) cd dx) ?_
   rintro gZ hb ⟨cg,rfl,aH,ch⟩
   have bL:=(bK.c0 aH).t3
   refine av u (ns ?_)
   obtain⟨dz,dA,dB⟩:=ob dy
   refine wc_cutg (IV w K [] cg [(2,sv q2),(4,V6 q4),(5,pt ag),(6,pt I),(12,.bool ce),(13,V3 Y aa ab),(16,sv aQ),(46,V3 G m n),(47,V6 (q3.length:Int)),(48,V6 ((bk:Nat):Int)),(67,.bool dz)] [obj ag [V3 A a b,V3 B c d] 36,obj I [V3 C f i,V3 D k l] 41,tail (V3 Y aa ab) 9 1]) ?_ ?_
   ·refine wc_region (mv u (lv (rv_sneq (r:=([]:Str)) u u) (mv u (bt dA (fun ah bM=>?_) (fun ah bM=>?_)))))
    ·refine lg ah (rv_move u) (lg ah (rv_move u) ?_)
     obtain⟨hc,dC,dD⟩:=ob bM
     refine wl_call (wg u u ah) u (rt_call (vs:=[V3 Y aa ab,sv aQ]) co53 u) (ok_slices_Contains_string F bL.enter0 (aP.mono (aA.trans aH.le)) ch dC) ?_
     rintro hd he ⟨dE,rfl,cj⟩
     refine⟨_,u,?_⟩
     have dF:=(bL.c0 cj).t3
     refine lg ah (rv_not u) (lv (rv_pick_t u ah u) (wl_nil ?_))
     cases oi dD
     exact qd ⟨dE,u,dF,cj.le⟩
    refine lu ah (lu ah (lu ah (lu ah (lv (p_f u ah u) (wl_nil ?_)))))
    cases oi bM
    exact qd ⟨cg,u,bL,kr⟩
   rintro _ hf ⟨dG,rfl,ck,bm⟩
   refine qe_seq (wcc dB u (fun dH bN=>?_) (fun dH bN=>?_))
   ·refine wc_region (mv u (mv u (lb tStr (sv aQ) [sv aQ] aQ underlying22 tf9 ⟨u,ch⟩ ck fun hg hh hi cl dI dJ=>?_)))
    obtain⟨hj,dK,dL⟩:=ob bN
    refine lp underlying22 tf9 (SliceAt.mono (((aA.trans aH.le).trans bm).trans cl) aP) dI dK dJ.f3 fun dM dN dO hk dP dQ dR dS=>(av u (nb (qg (lv (rv_add_to u u (w64_succ hi113 (SliceAt.max (aE.mono (o.trans q))))) (mv u (wl_nil ?_))))))
    cases oi dL
    exact qd ⟨dM,dN,dO,dP,u,dS.f3.f3.s,(((((ay.trans aA).trans aH.le).trans bm).trans cl).trans dQ),dR⟩
   refine wc_skip (qe_block (qg (lv (rv_add_to u u (w64_succ hi113 (SliceAt.max (aE.mono (o.trans q))))) (mv u (wl_nil ?_)))))
   cases oi bN
   exact qd ⟨Y,aa,ab,dG,u,ck,(((ay.trans aA).trans aH.le).trans bm),(aP.mono ((aA.trans aH.le).trans bm))⟩
  rintro bl _ dg dT ⟨Y,aa,ab,ao,rfl,aG,ay,aP⟩
  subst dT
  refine sr (lv (rv_lss u u) (ns (wc_cond_f u (decide_eq_false (by omega)) (wc_exit (qe_then_exit (qe_then_exit (qe_block_eq ?_)))))))
  cases oi df
  exact qd ⟨Y,aa,ab,ao,u,aG,ay,aP⟩
 rintro _ hn ⟨x,y,H,bj,rfl,bn,T,aI⟩
 refine qs (sr (mv u (lv (rv_not u) (nq (wcc dd u (fun dU bO=>?_) (fun dU bO=>?_))))))
 ·refine sr (b0 tGHit underlying51 tf92 bn fun dV ho dW hp dX dY=>(av u (lv (rv_assign (v:=V6 (-1)) u) (nq (rr ?_)))))
  cases oi bO
  exact qe_ret (vs:=[_,_]) results21 ⟨u,u,trivial⟩ ⟨dV,0,0,dW,u,dY.s,dX,(by decide :rng64 (-1))⟩
 refine wc_skip (qr (lv (rv_loadmS (ds:=[V3 A a b,V3 B c d]) tf36 u m0 bn u u) (lv (rv_loadmS (ds:=[V3 C f i,V3 D k l]) tf41 u m1 bn u u) (lv (rv_build (cs:=#[V3 A a b,V3 B c d,V3 C f i,V3 D k l]) sp69 tf69 u (by kernel_rfl)) (bx u bn fun U hq dZ=>?_)))))
 have ea:SH _ _ _ _ _ [obj U [V3 A a b,V3 B c d,V3 C f i,V3 D k l] 69,_,_,_]:=dZ
 refine av u (nr (wl_buildSlice0 (tSlice tGBlock) wn u underlying85 tf32 ea fun eb hr bP s ec ed=>(av u (nsr (mv u (lv (rv_len underlying22 u (aI.mono s)) (lv (r_m u) (nq ?_))))))))
 obtain⟨ee,ef,eg⟩:=ob bO
 refine wc_cutg (fun E' w'=>∃ac ad ae bo,E'=[(2,sv q2),(4,V6 q4),(6,pt I),(13,V3 x y H),(17,pt U),(18,V3 ac ad ae)]∧SH w K [] w' bo [obj I [V3 C f i,V3 D k l] 41,obj U [V3 A a b,V3 B c d,V3 C f i,V3 D k l] 69,tail (V3 x y H) 9 1,tail (V3 ac ad ae) 32 1]∧KLe bP bo∧SliceAt (tSlice tGBlock) bo ac ad ae ee) ?_ ?_
 ·refine wc_block ?_
  obtain⟨ht,eh,ei⟩:=ob ef
  have ej:=ed.f4.f2.f4.sb (sk (sk (sk (sk (sd sz)))))
  refine qF (fun (cm:Nat) (bQ:(List (List GBlock))) E' w'=>∃aJ aK aL aM,E'=[(2,sv q2),(4,V6 q4),(6,pt I),(13,V3 x y H),(17,pt U),(18,V3 aJ aK aL),(81,V3 x y H),(82,V6 (bi.2.length:Int)),(83,V6 ((cm:Nat):Int))]∧SH w K [] w' aM [obj I [V3 C f i,V3 D k l] 41,obj U [V3 A a b,V3 B c d,V3 C f i,V3 D k l] 69,tail (V3 x y H) 9 1,tail (V3 aJ aK aL) 32 1]∧KLe bP aM∧SliceAt (tSlice tGBlock) aM aJ aK aL bQ) eh ⟨eb,0,0,bP,u,ej,kr,ec⟩ ?_ ?_
  ·rintro cm bQ _ ek hu hi241 el ⟨aJ,aK,aL,aM,rfl,bp,ap,bR⟩
   refine sr (lv (rv_lss u u) (ns (wc_cond_t u (decide_eq_true (by omega)) (wc_skip (qe_seq (wc_seq (wc_block (sr ?_))))))))
   obtain⟨em,en,eo⟩:=ob el
   refine li underlying22 tf9 (aI.mono (s.trans ap)) en fun ep eq hv es et=>?_
   obtain⟨rfl,eu⟩:=es
   have ev:AtK _ ep eq [sv em]:=et
   refine lv (rv_load1 tf9 u bp (ev 0 _ u)) (av u (nq (wc_region (mv u (mv u (mv u (mv u ?_)))))))
   obtain⟨ew,ex,eA⟩:=ob eo
   have cn:=bp.f1
   refine lk co36 ((ok_impl_scorer_bounds F (q0:=(GScorer.mk q0 q1))) cn.e1 (SliceAt.mono ((((o.trans q).trans T).trans s).trans ap) bf) (SliceAt.mono ((((o.trans q).trans T).trans s).trans ap) bg) (SliceAt.mono ((((o.trans q).trans T).trans s).trans ap) an) (SliceAt.mono ((((o.trans q).trans T).trans s).trans ap) bv) bz eu ex) ?_
   rintro hw hx ⟨cp,cq,cr,hy,rfl,bS,eB⟩
   have eC:=(cn.c1 bS).t5
   refine lb (tSlice tGBlock) (V3 cp cq cr) [V3 cp cq cr] ew underlying85 tf32 ⟨_,_,_,u,eB⟩ eC fun hz hA hB ct eD eE=>?_
   obtain⟨hC,eF,eG⟩:=ob eA
   refine lp underlying85 tf32 (bR.mono (bS.le.trans ct)) eD eF eE.f5 fun eH eI eJ hD eK eL eM eN=>(av u (nb (qg (lv (rv_add_to u u (w64_succ hi241 (SliceAt.max (aI.mono s)))) (mv u (wl_nil ?_))))))
   cases oi eG
   exact qd ⟨eH,eI,eJ,eK,u,eN.f5.f4.f5.s,(((ap.trans bS.le).trans ct).trans eL),eM⟩
  rintro bQ _ ek eO ⟨aJ,aK,aL,aM,rfl,bp,ap,bR⟩
  subst eO
  refine sr (lv (rv_lss u u) (ns (wc_cond_f u (decide_eq_false (by omega)) (wc_exit (qe_then_exit (qe_then_exit (qe_block_eq ?_)))))))
  cases oi ei
  exact qd ⟨aJ,aK,aL,aM,u,bp,ap,bR⟩
 rintro _ hE ⟨ac,ad,ae,bo,rfl,eP,af,eQ⟩
 refine qr (b0 tGHit underlying51 tf92 eP fun eR hF bT V eS cu=>(av u (nr (lv (r_0 u) (nsr (fl ff41_0 u tf38 m1 cu u (lv (rv_len underlying38 u (SliceAt.mono (((((o.trans q).trans T).trans s).trans af).trans V) an)) (lv (r_m u) (nq ?_)))))))))
 obtain⟨bU,eT,eU⟩:=ob eg
 refine wc_cutg (fun E' w'=>∃aR aS aT aU,E'=[(21,V3 aR aS aT),(22,V6 bU.2)]∧SH w K [] w' aU [tail (V3 aR aS aT) 92 2]∧KLe bT aU∧SliceAt tGHit aU aR aS aT bU.1∧rng64 bU.2) ?_ ?_
 ·refine wc_block ?_
  obtain⟨hG,eV,eW⟩:=ob eT
  have eX:=cu.f4.f4.f4.sb (sk (sk (sk (sk (sd sz)))))
  refine qF (fun (aV:Nat) (aq:(List GHit)×Int) E' w'=>∃J O R aj,E'=[(2,sv q2),(4,V6 q4),(13,V3 x y H),(17,pt U),(18,V3 ac ad ae),(21,V3 J O R),(22,V6 aq.2),(97,V3 C f i),(98,V6 (q1.Docs.length:Int)),(99,V6 ((aV:Nat):Int))]∧SH w K [] w' aj [obj U [V3 A a b,V3 B c d,V3 C f i,V3 D k l] 69,tail (V3 x y H) 9 1,tail (V3 ac ad ae) 32 1,tail (V3 J O R) 92 2]∧KLe bT aj∧SliceAt tGHit aj J O R aq.1∧rng64 aq.2) eV ⟨eR,0,0,bT,u,eX,kr,eS,d_0⟩ ?_ ?_
  ·rintro aV aq _ eY hH hi327 eZ ⟨J,O,R,aj,rfl,bq,S,ar,bV⟩
   refine sr (lv (rv_lss u u) (ns (wc_cond_t u (decide_eq_true (by omega)) (wc_skip (qe_seq (wc_seq (wc_block (sr ?_))))))))
   obtain⟨aB,fb,fc⟩:=ob eZ
   refine li underlying38 tf89 (SliceAt.mono ((((((o.trans q).trans T).trans s).trans af).trans V).trans S) an) fb fun fd fe hI fg fh=>?_
   obtain⟨aW,aX,aY,aZ,ba,bb,rfl,br,hJ,hK⟩:=fg
   have fi:AtK _ fd fe [V6 aB.Id,V3 aW aX aY,V3 aZ ba bb]:=fh
   refine lv (rv_loadS tf89 u bq fi u) (al tf89 bq fun aC hL fj=>?_)
   have fk:SH _ _ _ _ _ [obj aC [V6 0,V3 none 0 0,V3 none 0 0] 89,_,_,_,_]:=fj
   refine lw [V6 aB.Id,V3 aW aX aY,V3 aZ ba bb] tf89 fk fun hM fm=>(nr (lv (r_0 u) (lv (r_0 u) (nsr (mv u (lv (rv_len underlying22 u (SliceAt.mono (((s.trans af).trans V).trans S) aI)) (lv (r_m u) (nq ?_))))))))
   obtain⟨aD,fn,fo⟩:=ob fc
   refine wc_cutg (IW w K [] aj [(2,sv q2),(4,V6 q4),(13,V3 x y H),(17,pt U),(18,V3 ac ad ae),(21,V3 J O R),(22,V6 aq.2),(24,pt aC),(25,V6 aD.1),(26,V6 aD.2),(97,V3 C f i),(98,V6 (q1.Docs.length:Int)),(99,V6 ((aV:Nat):Int))] [obj U [V3 A a b,V3 B c d,V3 C f i,V3 D k l] 69,obj aC [V6 aB.Id,V3 aW aX aY,V3 aZ ba bb] 89,tail (V3 x y H) 9 1,tail (V3 ac ad ae) 32 1,tail (V3 J O R) 92 2] (rng64 aD.1∧rng64 aD.2)) ?_ ?_
   ·refine wc_block ?_
    obtain⟨hN,fp,fq⟩:=ob fn
    refine qF (fun (cv:Nat) (aN:Int×Int)=>IW w K [] aj [(2,sv q2),(4,V6 q4),(13,V3 x y H),(17,pt U),(18,V3 ac ad ae),(21,V3 J O R),(22,V6 aq.2),(24,pt aC),(25,V6 aN.1),(26,V6 aN.2),(97,V3 C f i),(98,V6 (q1.Docs.length:Int)),(99,V6 ((aV:Nat):Int)),(103,V3 x y H),(104,V6 (bi.2.length:Int)),(105,V6 ((cv:Nat):Int))] [obj U [V3 A a b,V3 B c d,V3 C f i,V3 D k l] 69,obj aC [V6 aB.Id,V3 aW aX aY,V3 aZ ba bb] 89,tail (V3 x y H) 9 1,tail (V3 ac ad ae) 32 1,tail (V3 J O R) 92 2] (rng64 aN.1∧rng64 aN.2)) fp ⟨aj,u,fm.f4.f4.f4.f3.f4,kr,d_0,d_0⟩ ?_ ?_
    ·rintro cv aN _ fr hO hi380 fs ⟨cw,rfl,bc,ak,cx,cy⟩
     refine sr (lv (rv_lss u u) (ns (wc_cond_t u (decide_eq_true (by omega)) (wc_skip (qe_seq (wc_seq (wc_block (sr (mv u ?_)))))))))
     obtain⟨ft,fu,fv⟩:=ob fs
     refine li underlying22 tf9 (SliceAt.mono ((((s.trans af).trans V).trans S).trans ak) aI) fu fun fw fx hP fy fz=>?_
     obtain⟨rfl,fA⟩:=fy
     have fB:AtK _ fw fx [sv ft]:=fz
     refine lv (rv_load1 tf9 u bc (fB 0 _ u)) (av u (av u (ns (wc_quiet mixed (by kernel_rfl) bc (km u (km u (km u ?_)))))))
     obtain⟨hQ,fC,fD⟩:=ob fv
     refine ki underlying85 tf32 (eQ.mono ((V.trans S).trans ak)) fC fun fE fF hR fG fH=>?_
     obtain⟨fI,fJ,fK,rfl,cz⟩:=fG
     have fL:AtK _ fE fF [V3 fI fJ fK]:=fH
     refine kh (rq_load1 tf32 u (fL 0 _ u)) (kv (rv_fieldAddr ff89_0 u) (kh (rq_loadm1 tf3 u m1 u) ?_))
     obtain⟨hT,cA,fM⟩:=ob fD
     refine kd co54 (fun _ _ fN fO=>(ok_impl_BoundAt F) fN.enter0 (cz.mono fO) br cA) ?_
     obtain⟨_,_,_,⟨_,_,_,hU⟩,_⟩:=(ok_impl_BoundAt F) bc.enter0 cz br cA []
     refine kv (rv_add u u) (kv (rv_assign u) (wq_nil ?_))
     rintro hV ⟨hW,bW,bd⟩
     refine qe_seq (wc_region (mv u (mv u (mv u (mv u (fl ff89_0 u tf3 m1 bW u ?_))))))
     obtain⟨hX,fP,fQ⟩:=ob fM
     refine lk co55 ((ok_impl_scorer_points F (q0:=(GScorer.mk q0 q1))) bW.e1 (SliceAt.mono ((((((((o.trans q).trans T).trans s).trans af).trans V).trans S).trans ak).trans bd) bf) (SliceAt.mono ((((((((o.trans q).trans T).trans s).trans af).trans V).trans S).trans ak).trans bd) bg) (SliceAt.mono ((((((((o.trans q).trans T).trans s).trans af).trans V).trans S).trans ak).trans bd) an) (SliceAt.mono ((((((((o.trans q).trans T).trans s).trans af).trans V).trans S).trans ak).trans bd) bv) bz fA br fP) ?_
     rintro hY hZ ⟨fR,rfl,cB,ia⟩
     have fS:=(bW.c1 cB).t5
     refine lv (rv_add u u) (av u (nb (qg (lv (rv_add_to u u (w64_succ hi380 (SliceAt.max (SliceAt.mono (((s.trans af).trans V).trans S) aI)))) (mv u (wl_nil ?_))))))
     cases oi fQ
     exact qd ⟨fR,u,fS,((ak.trans bd).trans cB.le),(w64_rng _),(w64_rng _)⟩
    rintro aN _ fr fT ⟨cw,rfl,bc,ak,cx,cy⟩
    subst fT
    refine sr (lv (rv_lss u u) (ns (wc_cond_f u (decide_eq_false (by omega)) (wc_exit (qe_then_exit (qe_then_exit (qe_block_eq ?_)))))))
    cases oi fq
    exact qd ⟨cw,u,bc,ak,cx,cy⟩
   rintro _ ib ⟨bs,rfl,bu,am,ic,fU⟩
   refine qs (wc_seq ?_)
   obtain⟨fV,fW,fX⟩:=ob fo
   refine wc_cutg (IV w K [] bs [(2,sv q2),(4,V6 q4),(13,V3 x y H),(17,pt U),(18,V3 ac ad ae),(21,V3 J O R),(22,V6 aq.2),(24,pt aC),(26,V6 aD.2),(97,V3 C f i),(98,V6 (q1.Docs.length:Int)),(99,V6 ((aV:Nat):Int)),(146,.bool fV)] [obj U [V3 A a b,V3 B c d,V3 C f i,V3 D k l] 69,obj aC [V6 aB.Id,V3 aW aX aY,V3 aZ ba bb] 89,tail (V3 x y H) 9 1,tail (V3 ac ad ae) 32 1,tail (V3 J O R) 92 2]) ?_ ?_
   ·refine wc_region (mv u (lv (rv_eql u u) (mv u (bt fW (fun W bX=>?_) (fun W bX=>?_)))))
    ·iterate 5 refine lu W ?_
     refine wl_un (uu u u) u (wl_un (uu u u) u (wl_un (uu u u) u (wl_un (uu u u) u (wl_un (uu u u) u (wl_un (uu u u) u (wl_un (uu u u) u (wl_un (uu u u) u (wl_un (uu u u) u (lu W ?_)))))))))
     refine lv (p_t u W u) (wl_nil ?_)
     cases oi bX
     exact qd ⟨bs,u,bu,kr⟩
    refine lg W (rv_move u) (lg W (rv_len underlying51 u (ar.mono am)) (lg W (rv_move u) (lg W (rv_eql u u) (lg W (rv_move u) (bt bX (fun X bY=>?_) (fun X bY=>?_))))))
    ·refine lg X (rv_move u) (lg X (rv_move u) (lg X (rv_move u) (lg X (rv_len underlying51 u (ar.mono am)) (lg X (rv_sub u u) ?_))))
     obtain⟨cC,fY,fZ⟩:=ob bY
     refine wl_indexAddr (t:=tGHit) (wg u u X) u underlying51 tf92 u u (ar.mono am) fY fun ga gb ie gc gd=>?_
     obtain⟨rfl,ig,ih⟩:=gc
     have ge:AtK _ ga gb [V6 cC.Doc,V6 cC.Points]:=gd
     refine lg X (rv_fieldAddr ff92_1 u) (lg X (rv_load1 tf3 u bu (ge 1 _ u)) (lg X (rv_leq u u) (lg W (rv_pick_t u X u) (lv (rv_pick_f u W u) (wl_nil ?_)))))
     cases oi fZ
     exact qd ⟨bs,u,bu,kr⟩
    iterate 9 refine lu X ?_
    refine lg W (p_f u X u) (lv (rv_pick_f u W u) (wl_nil ?_))
    cases oi bY
    exact qd ⟨bs,u,bu,kr⟩
   rintro _ ii ⟨cD,rfl,be,aO⟩
   refine qe_seq (wcc fX u (fun gg bZ=>?_) (fun gg bZ=>?_))
   ·refine wc_exit (qe_then_exit (qe_block_eq (qg (lv (rv_add_to u u (w64_succ hi327 (SliceAt.max (SliceAt.mono (((((o.trans q).trans T).trans s).trans af).trans V) an)))) (mv u (wl_nil ?_))))))
    cases oi bZ
    exact qd ⟨J,O,R,cD,u,be.s,((S.trans am).trans aO),(ar.mono (am.trans aO)),bV⟩
   refine wc_skip (qr (mv u (lv (rv_add u u) (av u (nr (mv u (lv (rv_gtr u u) (nq (wcc bZ u (fun gj ca=>?_) (fun gj ca=>?_))))))))))
   ·refine wc_region (mv u (fl ff89_0 u tf3 m1 be u (mv u (lv (rv_build (cs:=#[V6 aB.Id,V6 aD.2]) sp92 tf92 u (by kernel_rfl)) (mv u ?_)))))
    obtain⟨ij,gk,gl⟩:=ob ca
    refine lk co56 ((ok_impl_TopPush F (q1:=(GHit.mk aB.Id aD.2))) be.enter0 (ar.mono (am.trans aO)) br fU cb gk) ?_
    rintro ik il ⟨gm,go,gp,gq,rfl,cE,gr⟩
    have gv:=(be.c0 cE).t6
    refine av u (nb (qg (lv (rv_add_to u u (w64_succ hi327 (SliceAt.max (SliceAt.mono (((((o.trans q).trans T).trans s).trans af).trans V) an)))) (mv u (wl_nil ?_)))))
    cases oi gl
    exact qd ⟨gm,go,gp,gq,u,gv.f4.f4.f3.s,(((S.trans am).trans aO).trans cE.le),gr,(w64_rng _)⟩
   refine wc_skip (qe_block (qg (lv (rv_add_to u u (w64_succ hi327 (SliceAt.max (SliceAt.mono (((((o.trans q).trans T).trans s).trans af).trans V) an)))) (mv u (wl_nil ?_)))))
   cases oi ca
   exact qd ⟨J,O,R,cD,u,be.s,((S.trans am).trans aO),(ar.mono (am.trans aO)),(w64_rng _)⟩
  rintro aq _ eY gw ⟨J,O,R,aj,rfl,bq,S,ar,bV⟩
  subst gw
  refine sr (lv (rv_lss u u) (ns (wc_cond_f u (decide_eq_false (by omega)) (wc_exit (qe_then_exit (qe_then_exit (qe_block_eq ?_)))))))
  cases oi eW
  exact qd ⟨J,O,R,aj,u,bq.s,S,ar,bV⟩
 rintro _ im ⟨aR,aS,aT,aU,rfl,gx,io,gy,gz⟩
 refine qr (mv u (mv u (av u (av u (nq (wc_ret ?_))))))
 cases oi eU
 exact qe_ret (vs:=[_,_]) results21 ⟨u,u,trivial⟩ ⟨aR,aS,aT,aU,u,gx,gy,gz⟩
end Go.Proofs.YtfiahfncijjliaaGreatDoor
