/-
 Walks of the functions. Printed by gen.py.
-/
import Derived.Test.YtfiahfncijjliaaGreatDoorWalkA1
import Derived.Test.YtfiahfncijjliaaGreatDoorWalkA2
import Derived.Test.YtfiahfncijjliaaGreatDoorWalkA3
import Derived.Test.YtfiahfncijjliaaGreatDoorWalkA5
import Derived.Test.YtfiahfncijjliaaGreatDoorWalkA6
import Derived.Test.YtfiahfncijjliaaGreatDoorWalkA7
set_option linter.unusedVariables false
set_option linter.unusedSectionVars false
set_option maxRecDepth 100000
namespace Go.Proofs.YtfiahfncijjliaaGreatDoor
set_option maxHeartbeats 4000000
open Go Go.Fk Go.RowKit Tryz
variable (F:Nat){w:World}{K:KMap}{Z:List Nat}{g1 g2 g3:Nat}{A B C D G H I J O R S T:Option Addr}{a b c d f i k l m n o p q s v x y aa ab ac ad ae af ag:Nat}
variable [dr:Dr]

theorem ok_spec_l7Of {q0:GConf}{q1:List GDoc}{r:GSeg}(hS:SH w K [] w K [])(bH:SliceAt tStr K A a b q0.Stops)(bI:SliceAt tGSyn K B c d q0.Syns)(aw:SliceAt tGDoc K C f i q1)(hm:M.spec_l7Of F q0 q1=some r):
  Calls prog 64 #[.agg #[V3 A a b,V3 B c d],V3 C f i] w fun e w'=>∃a_1 n_2 c_3 a_5 n_6 c_7 cs_8 K',e= .returned (.agg #[V3 a_1 n_2 c_3,V3 a_5 n_6 c_7])∧SH w K [] w' K' [tail (V3 a_1 n_2 c_3) 89 3,rowI (V3 a_5 n_6 c_7) cs_8 114 3]∧SliceAt tGDoc K' a_1 n_2 c_3 r.Docs∧RowAt true tGEntry K' cs_8 r.Entries∧n_6=r.Entries.length:=by
 rw [M.spec_l7Of] at hm
 refine ci func64 u ntmps64 (sr (bx u hS fun o ee cc=>?_))
 have cd:SH _ _ _ _ _ [obj o [V3 A a b,V3 B c d] 36]:=cc
 refine al tf41 cd fun l ef ce=>?_
 have cf:SH _ _ _ _ _ [obj l [V3 none 0 0,V3 none 0 0] 41,_]:=ce
 refine nr (lv (rv_build (cs:=#[V3 none 0 0,V3 none 0 0]) sp41 tf41 u (by kernel_rfl)) (al tf41 cf fun k eg cg=>?_))
 have ch:SH _ _ _ _ _ [obj k [V3 none 0 0,V3 none 0 0] 41,_,_]:=cg
 refine lw [V3 none 0 0,V3 none 0 0] tf41 ch fun eh bJ=>(nr (mv u ?_))
 obtain⟨ei,cj,ck⟩:=ob hm
 refine lk co102 (ok_spec_l7Names F bJ.enter0 aw cj) ?_
 rintro ej ek ⟨aW,aX,aY,aZ,rfl,q,ba⟩
 have cl:=(bJ.c0 q).t4
 refine av u (nsr (lv (r_0 u) (nq ?_)))
 obtain⟨bb,cm,cn⟩:=ob ck
 refine wc_cutg (fun E' w'=>∃ax ay az aL aA aM cs53 x,E'=[(1,V3 C f i),(4,pt l),(5,pt k)]∧SH w K [] w' x [obj l [V3 none 0 0,V3 none 0 0] 41,obj k [V3 ax ay az,V3 aL aA aM] 41,rowI (V3 aL aA aM) cs53 114 3,tail (V3 ax ay az) 89 3]∧KLe aZ x∧SliceAt tGDoc x ax ay az bb.Docs∧RowAt true tGEntry x cs53 bb.Entries∧aA=bb.Entries.length) ?_ ?_
 ·refine wc_block ?_
  obtain⟨el,cp,cq⟩:=ob cm
  have cr:=SH.rowNil cl 114 3
  have ct:=cr.nil 89 3
  have cu:=ct.f1.f3.f4.f5.sb (sk (sk (sk (sk (sk (sd sz))))))
  refine qw (fun (y:Int×GSeg) E' w'=>∃ac ad ae aB af aC cs72 S,E'=[(1,V3 C f i),(2,pt o),(4,pt l),(5,pt k),(6,V3 aW aX aY),(7,V6 y.1)]∧SH w K [] w' S [obj o [V3 A a b,V3 B c d] 36,obj l [V3 none 0 0,V3 none 0 0] 41,obj k [V3 ac ad ae,V3 aB af aC] 41,rowI (V3 aB af aC) cs72 114 3,tail (V3 ac ad ae) 89 3]∧KLe aZ S∧rng64 y.1∧SliceAt tGDoc S ac ad ae y.2.Docs∧RowAt true tGEntry S cs72 y.2.Entries∧af=y.2.Entries.length) cp ⟨none,0,0,none,0,0,[],aZ,u,cu,kr,d_0,(SliceAt.nil _ _),(RowAt.nil tGEntry _),u⟩ ?_
  rintro y _ em en cv cw ⟨ac,ad,ae,aB,af,aC,cs72,S,rfl,bK,m,eo,bL,hrow73,hm74⟩
  refine wc_seq (sr (mv u (mv u (lv (rv_len underlying22 u (ba.mono m)) (lv (rv_lss u u) (nq (wcc cv u (fun cx bc=>?_) (fun cx bc=>?_))))))))
  ·refine wc_skip (qs (wc_block (wc_seq ?_)))
   have aN:=bK.drew
   refine wh1 (fun w'=>Holds S w'∧HasObj o [V3 A a b,V3 B c d] w') (fun w'=>True) 8 [] mixed ⟨aN.hasK kr,aN.hasObj m0⟩ (fun _=>trivial) (gh (fun _ h=>rh_loadmS (ds:=[V3 A a b,V3 B c d]) tf36 u u u h.2) (gt (rv_move u) (gt (rv_move u) (gt (rv_move u) ?_))))
   obtain⟨cy,cz,cA⟩:=ob bc
   refine gi underlying22 tf9 (ba.mono m) cz fun cB cC ep cD cE=>?_
   obtain⟨rfl,cF⟩:=cD
   have cG:AtK _ cB cC [sv cy]:=cE
   refine gh (fun _ h=>rh_load1 tf9 u (cG 0 _ u) h.1) (gn ?_)
   obtain⟨eq,cH,cI⟩:=ob cA
   refine lk co103 (ok_spec_l7Terms F aN.enter0 (bH.mono (q.le.trans m)) (bI.mono (q.le.trans m)) (aw.mono (q.le.trans m)) cF cH) ?_
   rintro es et ⟨cJ,cK,cL,bd,rfl,s,bM⟩
   have be:=(aN.c0 s).t6
   refine wl_nil (qh ⟨be.hasK s.le,be.hasObj m1⟩ (fun _=>trivial) (gt (rv_assign u) (gd' (qr (lv (r_0 u) (nq ?_))))))
   obtain⟨bf,cM,cN⟩:=ob cI
   refine wc_cutg (fun E' w'=>∃aD aE aF aO aG aP cs125 ag,E'=[(1,V3 C f i),(2,pt o),(4,pt l),(5,pt k),(6,V3 aW aX aY),(7,V6 y.1)]∧SH w K [] w' ag [obj o [V3 A a b,V3 B c d] 36,obj l [V3 none 0 0,V3 none 0 0] 41,obj k [V3 aD aE aF,V3 aO aG aP] 41,rowI (V3 aO aG aP) cs125 114 3,tail (V3 aD aE aF) 89 3]∧KLe bd ag∧SliceAt tGDoc ag aD aE aF bf.Docs∧RowAt true tGEntry ag cs125 bf.Entries∧aG=bf.Entries.length) ?_ ?_
   ·refine wc_block ?_
    obtain⟨eu,cO,cP⟩:=ob cM
    have cQ:=be.sb (sd (sk (sk (sk (sk (sk sz))))))
    refine qw (fun (ah:Int×GSeg) E' w'=>∃D G H aH ai aI cs144 T,E'=[(1,V3 C f i),(2,pt o),(4,pt l),(5,pt k),(6,V3 aW aX aY),(7,V6 y.1),(8,V3 cJ cK cL),(9,V6 ah.1)]∧SH w K [] w' T [obj o [V3 A a b,V3 B c d] 36,obj l [V3 none 0 0,V3 none 0 0] 41,obj k [V3 D G H,V3 aH ai aI] 41,rowI (V3 aH ai aI) cs144 114 3,tail (V3 D G H) 89 3]∧KLe bd T∧rng64 ah.1∧SliceAt tGDoc T D G H ah.2.Docs∧RowAt true tGEntry T cs144 ah.2.Entries∧ai=ah.2.Entries.length) cO ⟨ac,ad,ae,aB,af,aC,cs72,bd,u,cQ,kr,d_0,(bL.mono s.le),(RowAt.mono s.le hrow73),hm74⟩ ?_
    rintro ah _ ev ew cR cS ⟨D,G,H,aH,ai,aI,cs144,T,rfl,bN,I,ex,bO,hrow145,hm146⟩
    refine wc_seq (sr (mv u (mv u (lv (rv_len underlying22 u (bM.mono I)) (lv (rv_lss u u) (nq (wcc cR u (fun cT bg=>?_) (fun cT bg=>?_))))))))
    ·refine wc_skip (qs (wc_block ?_))
     have aJ:=bN.drew
     refine wh1 (fun w'=>Holds T w'∧HasObj o [V3 A a b,V3 B c d] w') (fun w'=>HasObj k [V3 D G H,V3 aH ai aI] w') 16 [(1,14),(1,15),(1,16),(14,15),(14,16),(15,16)] mixed ⟨aJ.hasK kr,aJ.hasObj m0⟩ (fun _=>aJ.hasObj (.tail _ (.tail _ (.head _)))) (gt (rv_fieldAddr ff41_1 u) (gf (fun _ h=>rh_loadm1 tf39 u u h) (gh (fun _ h=>rh_loadmS (ds:=[V3 A a b,V3 B c d]) tf36 u u u h.2) (gt (rv_move u) (gt (rv_move u) (gt (rv_move u) ?_))))))
     obtain⟨cU,cV,cW⟩:=ob bg
     refine gi underlying22 tf9 (ba.mono ((m.trans s.le).trans I)) cV fun cX cY eA cZ da=>?_
     obtain⟨rfl,db⟩:=cZ
     have dc:AtK _ cX cY [sv cU]:=da
     refine gh (fun _ h=>rh_load1 tf9 u (dc 0 _ u) h.1) (gt (rv_move u) (gt (rv_move u) ?_))
     obtain⟨dd,de,df⟩:=ob cW
     refine gi underlying22 tf9 (bM.mono I) de fun dg dh eB di dj=>?_
     obtain⟨rfl,dk⟩:=di
     have dl:AtK _ dg dh [sv dd]:=dj
     refine gh (fun _ h=>rh_load1 tf9 u (dl 0 _ u) h.1) (gn ?_)
     obtain⟨aK,dm,dn⟩:=ob df
     refine lk co104 (ok_spec_l7Entry F aJ.enter0 (SliceAt.mono (((q.le.trans m).trans s.le).trans I) bH) (SliceAt.mono (((q.le.trans m).trans s.le).trans I) bI) (SliceAt.mono (((q.le.trans m).trans s.le).trans I) aw) db dk dm) ?_
     rintro eC eD ⟨bh,bi,bj,eE,rfl,J,dp,dq,dr⟩
     have aQ:=(aJ.c0 J).t6
     refine wl_nil (qh ⟨aQ.hasK J.le,aQ.hasObj m1⟩ (fun _=>aQ.hasObj (.tail _ (.tail _ (.tail _ (.head _))))) (gn (lb tGEntry (.agg #[sv aK.Field,sv aK.Term,V3 bh bi bj]) [sv aK.Field,sv aK.Term,V3 bh bi bj] aK underlying39 tf114 ⟨bh,bi,bj,u,dp,dq,dr⟩ aQ fun eF eG dt aj du aR=>(wl_nil (qh ⟨aR.hasK (J.le.trans aj),aR.hasObj m2⟩ (fun _=>aR.hasObj (.tail _ (.tail _ (.tail _ (.tail _ (.head _)))))) (gn ?_))))))
     obtain⟨eH,dv,dw⟩:=ob dn
     refine wl_appendR (t:=tGEntry) wn u underlying39 tf114 u u u u (RowAt.mono (J.le.trans aj) hrow145) hm146 du dv aR.f5 fun bk bl bm cs202 eI hrow204 hm205 aS=>(wl_nil (qh ⟨aS.hasK (J.le.trans aj),aS.hasObj m3⟩ (fun _=>aS.hasObj (.tail _ (.tail _ (.tail _ (.tail _ (.tail _ (.head _))))))) (gt (rv_fieldAddr ff41_1 u) (gn (ls [V3 D G H,V3 bk bl bm] (V3 bk bl bm) tf39 aS.f5 fun eJ bn=>(wl_nil (qh ⟨bn.hasK (J.le.trans aj),bn.hasObj m4⟩ (fun h=>nomatch h) (gd' (qe_block (qe_seq (wc_region ?_)))))))))))
     refine mv u (lv (rv_add u u) (av u (wl_nil ?_)))
     cases oi dw
     exact qd ⟨_,u,D,G,H,bk,bl,bm,cs202,dt,u,bn.f6.f2.f2.f6.f6.s,((I.trans J.le).trans aj),(w64_rng _),(bO.mono (J.le.trans aj)),hrow204,hm205⟩
    refine wc_exit (qe_then_exit (qe_then_exit ?_))
    cases oi bg
    cases cS _ u
    refine qe_block_eq ?_
    cases oi cP
    exact qd ⟨D,G,H,aH,ai,aI,cs144,T,u,bN,I,bO,hrow145,hm146⟩
   rintro _ eK ⟨aD,aE,aF,aO,aG,aP,cs125,ag,rfl,dx,dy,dz,hrow126,hm127⟩
   refine qe_block (qe_seq (wc_region (mv u (lv (rv_add u u) (av u (wl_nil ?_))))))
   cases oi cN
   exact qd ⟨_,u,aD,aE,aF,aO,aG,aP,cs125,ag,u,dx,((m.trans s.le).trans dy),(w64_rng _),dz,hrow126,hm127⟩
  refine wc_exit (qe_then_exit (qe_then_exit ?_))
  cases oi bc
  cases cw _ u
  refine qe_block_eq ?_
  cases oi cq
  exact qd ⟨ac,ad,ae,aB,af,aC,cs72,S,u,bK.s,m,bL,hrow73,hm74⟩
 rintro _ eL ⟨ax,ay,az,aL,aA,aM,cs53,x,rfl,dA,bP,dB,hrow54,hm55⟩
 refine qs (sr (lv (r_0 u) (nq ?_)))
 obtain⟨bo,dC,dD⟩:=ob cn
 refine wc_cutg (fun E' w'=>∃U V W ak X am cs233 an,E'=[(4,pt l),(5,pt k)]∧SH w K [] w' an [obj l [V3 none 0 0,V3 none 0 0] 41,obj k [V3 U V W,V3 ak X am] 41,rowI (V3 ak X am) cs233 114 3,tail (V3 U V W) 89 3]∧KLe x an∧SliceAt tGDoc an U V W bo.Docs∧RowAt true tGEntry an cs233 bo.Entries∧X=bo.Entries.length) ?_ ?_
 ·refine wc_block ?_
  obtain⟨eM,dE,dF⟩:=ob dC
  refine qw (fun (ao:Int×GSeg) E' w'=>∃ap aq ar Y O aa cs252 ab,E'=[(1,V3 C f i),(4,pt l),(5,pt k),(10,V6 ao.1)]∧SH w K [] w' ab [obj l [V3 none 0 0,V3 none 0 0] 41,obj k [V3 ap aq ar,V3 Y O aa] 41,rowI (V3 Y O aa) cs252 114 3,tail (V3 ap aq ar) 89 3]∧KLe x ab∧rng64 ao.1∧SliceAt tGDoc ab ap aq ar ao.2.Docs∧RowAt true tGEntry ab cs252 ao.2.Entries∧O=ao.2.Entries.length) dE ⟨ax,ay,az,aL,aA,aM,cs53,x,u,dA,kr,d_0,dB,hrow54,hm55⟩ ?_
  rintro ao _ eN eO dG dH ⟨ap,aq,ar,Y,O,aa,cs252,ab,rfl,bQ,aT,eP,bR,hrow253,hm254⟩
  refine wc_seq (sr (mv u (mv u (lv (rv_len underlying38 u (aw.mono ((q.le.trans bP).trans aT))) (lv (rv_lss u u) (nq (wcc dG u (fun dI bp=>?_) (fun dI bp=>?_))))))))
  ·refine wc_skip (qs (wc_block ?_))
   have aU:=bQ.drew
   refine wh1 (fun w'=>Holds ab w') (fun w'=>HasObj k [V3 ap aq ar,V3 Y O aa] w') 10 [(1,8),(1,9),(1,10),(8,9),(8,10),(9,10)] mixed (aU.hasK kr) (fun _=>aU.hasObj (.tail _ (.head _))) (gt (rv_fieldAddr ff41_0 u) (gf (fun _ h=>rh_loadm1 tf38 u u h) (gt (rv_move u) (gt (rv_move u) ?_))))
   obtain⟨bS,dJ,dK⟩:=ob bp
   refine gi underlying38 tf89 (aw.mono ((q.le.trans bP).trans aT)) dJ fun dL dM eQ dN dO=>?_
   obtain⟨bT,bU,bV,bW,bX,bY,rfl,dP,dQ,dR⟩:=dN
   have dS:AtK _ dL dM [V6 bS.Id,V3 bT bU bV,V3 bW bX bY]:=dO
   refine gh (fun _ h=>rh_loadS (cs:=[V6 bS.Id,V3 bT bU bV,V3 bW bX bY]) tf89 u dS u h) (gn ?_)
   obtain⟨bq,dT,dU⟩:=ob dK
   refine lk co105 (ok_spec_l7CopyDoc F aU.enter0 dP dQ dR dT) ?_
   rintro eR eS ⟨br,bs,bu,bv,bz,bA,eT,rfl,R,dV,dW,dX⟩
   have bB:=(aU.c0 R).t6
   refine wl_nil (qh (bB.hasK R.le) (fun _=>bB.hasObj (.tail _ (.tail _ (.tail _ (.head _))))) (gn (lb tGDoc (.agg #[V6 bq.Id,V3 br bs bu,V3 bv bz bA]) [V6 bq.Id,V3 br bs bu,V3 bv bz bA] bq underlying38 tf89 ⟨br,bs,bu,bv,bz,bA,u,dV,dW,dX⟩ bB fun eU eV eW au dY bC=>(wl_nil (qh (bC.hasK (R.le.trans au)) (fun _=>bC.hasObj (.tail _ (.tail _ (.tail _ (.tail _ (.head _)))))) (gn ?_))))))
   obtain⟨eX,dZ,ea⟩:=ob dU
   refine lp underlying38 tf89 (bR.mono (R.le.trans au)) dY dZ bC.f6 fun bD bE bF eY eb aV ec bG=>(wl_nil (qh (bG.hasK ((R.le.trans au).trans aV)) (fun _=>bG.hasObj (.tail _ (.tail _ (.tail _ (.tail _ (.tail _ (.head _))))))) (gt (rv_fieldAddr ff41_0 u) (gn (ls [V3 bD bE bF,V3 Y O aa] (V3 bD bE bF) tf38 bG.f5 fun eZ bZ=>(wl_nil (qh (bZ.hasK ((R.le.trans au).trans aV)) (fun h=>nomatch h) (gd' (qe_block (qe_seq (wc_region ?_)))))))))))
   refine mv u (lv (rv_add u u) (av u (wl_nil ?_)))
   cases oi ea
   exact qd ⟨_,u,bD,bE,bF,Y,O,aa,cs252,eb,u,bZ.f1.f6.f2.f6.s,(((aT.trans R.le).trans au).trans aV),(w64_rng _),ec,(RowAt.mono ((R.le.trans au).trans aV) hrow253),hm254⟩
  refine wc_exit (qe_then_exit (qe_then_exit ?_))
  cases oi bp
  cases dH _ u
  refine qe_block_eq ?_
  cases oi dF
  exact qd ⟨ap,aq,ar,Y,O,aa,cs252,ab,u,bQ,aT,bR,hrow253,hm254⟩
 rintro _ fb ⟨U,V,W,ak,X,am,cs233,an,rfl,ca,fc,ed,hrow234,hm235⟩
 refine qr (lv (rv_loadmS (ds:=[V3 U V W,V3 ak X am]) tf41 u m1 ca u u) (lw [V3 U V W,V3 ak X am] tf41 ca fun fd cb=>(nq (wc_ret ?_))))
 cases oi dD
 exact ez results64 tf41 cb m0 ⟨U,V,W,ak,X,am,cs233,an,u,cb.f2.f3.s,ed,hrow234,hm235⟩

theorem ok_spec_l7Ok {q0:GConf}{q1:GSeg}{r:Bool}(hS:SH w K [] w K [])(ad:SliceAt tStr K A a b q0.Stops)(ae:SliceAt tGSyn K B c d q0.Syns)(af:SliceAt tGDoc K C f i q1.Docs)(ag:SliceAt tGEntry K D k l q1.Entries)(hm:M.spec_l7Ok F q0 q1=some r):
  Calls prog 30 #[.agg #[V3 A a b,V3 B c d],.agg #[V3 C f i,V3 D k l]] w (R_b w K r):=by
 rw [M.spec_l7Ok] at hm
 refine ci func30 u ntmps30 (sr (bx u hS fun O bO aA=>?_))
 have aB:SH _ _ _ _ _ [obj O [V3 A a b,V3 B c d] 36]:=aA
 refine bx u aB fun o bP aC=>?_
 have R:SH _ _ _ _ _ [obj o [V3 C f i,V3 D k l] 41,_]:=aC
 refine lv (r_f u) (ns (wc_seq ?_))
 obtain⟨aD,aE,aF⟩:=ob hm
 refine wc_cutg (IV w K [] K [(2,pt O),(3,pt o),(15,.bool aD)] [obj O [V3 A a b,V3 B c d] 36,obj o [V3 C f i,V3 D k l] 41]) ?_ ?_
 ·refine wc_region (lv (rv_loadmS (ds:=[V3 A a b,V3 B c d]) tf36 u m1 R u u) ?_)
  obtain⟨bQ,aG,aH⟩:=ob aE
  refine lk co62 (ok_spec_l2Ok F R.enter0 ad ae aG) ?_
  rintro bR bS ⟨aI,rfl,y⟩
  have G:=(R.c0 y).t2
  refine lv (rv_not u) (mv u (bt aH (fun m S=>?_) (fun m S=>?_)))
  ·refine lu m (lu m (lu m (lu m (lv (p_t u m u) (wl_nil ?_)))))
   cases oi S
   exact qd ⟨aI,u,G.f1,y.le⟩
  refine lg m (rv_fieldAddr ff41_0 u) (lg m (rv_loadm1 tf38 u m0 G u) ?_)
  obtain⟨bT,aJ,aK⟩:=ob S
  refine wl_call (wg u u m) u (rt_call (vs:=[V3 C f i]) co63 u) (ok_spec_l6Docs F G.enter0 (af.mono y.le) aJ) ?_
  rintro bU bV ⟨aL,rfl,ah⟩
  refine⟨_,u,?_⟩
  have aM:=(G.c0 ah).t2
  refine lg m (rv_not u) (lv (rv_pick_f u m u) (wl_nil ?_))
  cases oi aK
  exact qd ⟨aL,u,aM.f1,(y.le.trans ah.le)⟩
 rintro _ bW ⟨aN,rfl,q,s⟩
 refine qe_seq (wcc aF u (fun aO T=>?_) (fun aO T=>?_))
 ·refine sr (lv (r_f u) (nq (rr ?_)))
  cases oi T
  exact ey results30 ⟨aN,u,q.s⟩
 refine wc_skip (qr (lv (rv_loadmS (ds:=[V3 A a b,V3 B c d]) tf36 u m0 q u u) (fl ff41_0 u tf38 m1 q u ?_)))
 obtain⟨bX,aP,aQ⟩:=ob T
 refine lk co64 (ok_spec_l7Of F q.enter0 (ad.mono s) (ae.mono s) (af.mono s) aP) ?_
 rintro bY bZ ⟨ai,aj,ak,am,an,ao,cs68,ca,rfl,U,cb,hrow69,hm70⟩
 have aR:=(q.c0 U).t4
 obtain⟨H,ap,V,aS⟩:=SH.freezeI aR.f1 hrow69 hm70
 refine al tf41 aS fun W cc aT=>?_
 have aU:SH _ _ _ _ _ [obj W [V3 none 0 0,V3 none 0 0] 41,_,_,_,_]:=aT
 refine lw [V3 ai aj ak,V3 am an ao] tf41 aU fun cd I=>(nsr (fl ff41_1 u tf39 m0 I u (lv (rv_len underlying39 u V) (fl ff41_1 u tf39 m4 I u (lv (rv_len underlying39 u (ag.mono ((s.trans U.le).trans ap))) (lv (rv_neq u u) (nq (wcc aQ u (fun aV X=>?_) (fun aV X=>?_)))))))))
 ·refine sr (lv (r_f u) (nq (rr ?_)))
  cases oi X
  exact ey results30 ⟨H,u,I.s⟩
 refine wc_skip (qs (sr (lv (r_0 u) (nq ?_))))
 obtain⟨aW,aX,J⟩:=ob X
 refine wc_cutg (IE aW w K [] H [] []) ?_ ?_
 ·refine wc_block ?_
  obtain⟨ce,aY,aq⟩:=ob aX
  have aZ:=I.f4.sb (sk (sk (sd (sd (sd sz)))))
  refine qw (fun (Y:Int)=>IW w K [] H [(3,pt o),(5,pt W),(6,V6 Y)] [obj o [V3 C f i,V3 D k l] 41,obj W [V3 ai aj ak,V3 am an ao] 41] (rng64 Y)) aY ⟨H,u,aZ,kr,d_0⟩ ?_
  rintro Y _ cf cg ba ar ⟨bb,rfl,aa,x,ch⟩
  refine wc_seq (sr (mv u (fl ff41_1 u tf39 m1 aa u (lv (rv_len underlying39 u (V.mono x)) (lv (rv_lss u u) (nq (wcc ba u (fun bc ab=>?_) (fun bc ab=>?_))))))))
  ·refine wc_skip (qs (wc_block (wc_seq (wc_quiet mixed (by kernel_rfl) aa (kv (rv_fieldAddr ff41_1 u) (kh (rq_loadm1 tf39 u m1 u) (km u ?_)))))))
   obtain⟨au,bd,be⟩:=ob ab
   refine ki underlying39 tf114 (V.mono x) bd fun bf bg cj bh bi=>?_
   obtain⟨bj,bk,bl,rfl,bm,bn,bo⟩:=bh
   have bp:AtK _ bf bg [sv au.Field,sv au.Term,V3 bj bk bl]:=bi
   refine kh (rq_loadS tf114 u bp u) (kv (rv_fieldAddr ff41_1 u) (kh (rq_loadm1 tf39 u m0 u) (km u ?_)))
   obtain⟨aw,bq,br⟩:=ob be
   refine ki underlying39 tf114 (SliceAt.mono (((s.trans U.le).trans ap).trans x) ag) bq fun bs bu ck bv bz=>?_
   obtain⟨bA,bB,bC,rfl,bD,bE,bF⟩:=bv
   have bG:AtK _ bs bu [sv aw.Field,sv aw.Term,V3 bA bB bC]:=bz
   refine kh (rq_loadS tf114 u bG u) ?_
   obtain⟨cl,bH,bI⟩:=ob br
   refine kc co65 (fun _ _ bJ ax=>(ok_spec_l7SameEntry F) bJ.enter0 bm bn (bo.mono ax) bD bE (bF.mono ax) bH) (kv (rv_not u) (wq_nil ?_))
   rintro cm ⟨ay,az,bK⟩
   refine qe_seq (wcc bI u (fun bL ac=>?_) (fun bL ac=>?_))
   ·refine sr (lv (r_f u) (nq (wc_ret (qe_block_ret (qe_then_ret (qe_then_ret ?_))))))
    cases oi ac
    cases ar _ u
    refine qe_block_ret (qe_then_ret ?_)
    cases oi aq
    refine qe_then_ret ?_
    cases oi J
    exact ey results30 ⟨ay,u,az.s⟩
   refine wc_skip (qe_block (qe_seq (wc_region (mv u (lv (rv_add u u) (av u (wl_nil ?_)))))))
   cases oi ac
   exact qd ⟨_,u,ay,u,az,(x.trans bK),(w64_rng _)⟩
  refine wc_exit (qe_then_exit (qe_then_exit ?_))
  cases oi ab
  cases ar _ u
  refine qe_block_eq ?_
  cases oi aq
  exact qe_mid' ⟨_,bb,u,u,aa.s,x⟩ trivial
 rintro _ cn ⟨cp,bM,rfl,rfl,bN,cq⟩
 have J:=elim_l J
 refine qr (lv (r_t u) (nq (wc_ret ?_)))
 cases oi J
 exact ey results30 ⟨bM,u,bN⟩

theorem ok_spec_BoundTop {q0:GConf}{q1:GSeg}{q2:Str}{q3:List Str}{q4:Int}{r:(List GHit)×Int}(hS:SH w K [] w K [])(ab:SliceAt tStr K A a b q0.Stops)(ac:SliceAt tGSyn K B c d q0.Syns)(aE:SliceAt tGDoc K C f i q1.Docs)(aF:SliceAt tGEntry K D k l q1.Entries)(aG:q2.length≤maxLen)(am:SliceAt tStr K G m n q3)(aH:rng64 q4)(hm:M.spec_BoundTop F q0 q1 q2 q3 q4=some r):
  Calls prog 19 #[.agg #[V3 A a b,V3 B c d],.agg #[V3 C f i,V3 D k l],sv q2,V3 G m n,V6 q4] w fun e w'=>∃a_1 n_2 c_3 K',e= .returned (.tuple #[V3 a_1 n_2 c_3,V6 r.2])∧SH w K [] w' K' []∧SliceAt tGHit K' a_1 n_2 c_3 r.1∧rng64 r.2:=by
 rw [M.spec_BoundTop] at hm
 refine ci func19 u ntmps19 (sr (bx u hS fun x ct aS=>?_))
 have aT:SH _ _ _ _ _ [obj x [V3 A a b,V3 B c d] 36]:=aS
 refine bx u aT fun y cu aU=>?_
 have ad:SH _ _ _ _ _ [obj y [V3 C f i,V3 D k l] 41,_]:=aU
 refine lv (r_n u) (lv (r_0 u) (ns (wc_seq ?_)))
 obtain⟨aV,aW,aX⟩:=ob hm
 refine wc_cutg (IV w K [] K [(2,sv q2),(3,V3 G m n),(4,V6 q4),(5,pt x),(6,pt y),(33,.bool aV)] [obj x [V3 A a b,V3 B c d] 36,obj y [V3 C f i,V3 D k l] 41]) ?_ ?_
 ·refine wc_region (lv (rv_loadmS (ds:=[V3 A a b,V3 B c d]) tf36 u m1 ad u u) (lv (rv_loadmS (ds:=[V3 C f i,V3 D k l]) tf41 u m0 ad u u) ?_))
  obtain⟨cv,aY,aZ⟩:=ob aW
  refine lk co30 (ok_spec_l7Ok F ad.enter0 ab ac aE aF aY) ?_
  rintro cw cx ⟨ba,rfl,U⟩
  have an:=(ad.c0 U).t2
  refine lv (rv_not u) (mv u (bt aZ (fun H ao=>?_) (fun H ao=>?_)))
  ·refine lu H (lu H (lu H (lv (p_t u H u) (mv u (lu u (lu u (lu u (lv (p_t u u u) (mv u ?_)))))))))
   refine lu u (lu u (lu u (lv (p_t u u u) (wl_nil ?_))))
   cases oi ao
   exact qd ⟨ba,u,an.f1,U.le⟩
  refine lg H (rv_move u) ?_
  obtain⟨cy,bb,bc⟩:=ob ao
  refine wl_call (wg u u H) u (rt_call (vs:=[sv q2]) co44 u) (ok_spec_l1WordOk F an.enter0 aG bb) ?_
  rintro cz cA ⟨bd,rfl,V⟩
  refine⟨_,u,?_⟩
  have ap:=(an.c0 V).t2
  refine lg H (rv_not u) (lv (rv_pick_f u H u) (mv u (bt bc (fun I aq=>?_) (fun I aq=>?_))))
  ·refine lu I (lu I (lu I (lv (p_t u I u) (mv u (lu u (lu u (lu u (lv (p_t u u u) (wl_nil ?_)))))))))
   cases oi aq
   exact qd ⟨bd,u,ap.f1,(U.le.trans V.le)⟩
  refine lg I (rv_move u) ?_
  obtain⟨cB,be,bf⟩:=ob aq
  refine wl_call (wg u u I) u (rt_call (vs:=[V3 G m n,V6 4]) co45 u) (ok_spec_l11Words F ap.enter0 (am.mono (U.le.trans V.le)) (by decide :rng64 4) be) ?_
  rintro cC cD ⟨bg,rfl,ar⟩
  refine⟨_,u,?_⟩
  have au:=(ap.c0 ar).t2
  refine lg I (rv_not u) (lv (rv_pick_f u I u) (mv u (bt bf (fun J aw=>?_) (fun J aw=>?_))))
  ·refine lu J (lu J (lu J (lv (p_t u J u) (wl_nil ?_))))
   cases oi aw
   exact qd ⟨bg,u,au.f1,((U.le.trans V.le).trans ar.le)⟩
  refine lg J (rv_move u) ?_
  obtain⟨cE,bh,bi⟩:=ob aw
  refine wl_call (wg u u J) u (rt_call (vs:=[V6 q4,V6 1,V6 16]) co46 u) (ok_spec_l1In F au.enter0 aH (by decide :rng64 1) (by decide :rng64 16) bh) ?_
  rintro cF cG ⟨bj,rfl,aI⟩
  refine⟨_,u,?_⟩
  have bk:=(au.c0 aI).t2
  refine lg J (rv_not u) (lv (rv_pick_f u J u) (wl_nil ?_))
  cases oi bi
  exact qd ⟨bj,u,bk.f1,(((U.le.trans V.le).trans ar.le).trans aI.le)⟩
 rintro _ cH ⟨bl,rfl,aJ,q⟩
 refine qe_seq (wcc aX u (fun bm ax=>?_) (fun bm ax=>?_))
 ·refine sr (lv (r_n u) (lv (rv_assign (v:=V6 (-1)) u) (nq (rr ?_))))
  cases oi ax
  exact qe_ret (vs:=[_,_]) results19 ⟨u,u,trivial⟩ ⟨none,0,0,bl,u,aJ.s,(SliceAt.nil _ _),(by decide :rng64 (-1))⟩
 refine wc_skip (qr (b0 tStr underlying22 tf9 aJ fun bn cI ay s bo bp=>(av u (nsr (lv (r_0 u) (nq ?_))))))
 obtain⟨bq,br,bs⟩:=ob ax
 refine wc_cutg (fun E' w'=>∃ae af ag ah,E'=[(2,sv q2),(4,V6 q4),(5,pt x),(6,pt y),(12,V3 ae af ag)]∧SH w K [] w' ah [obj x [V3 A a b,V3 B c d] 36,obj y [V3 C f i,V3 D k l] 41,tail (V3 ae af ag) 9 1]∧KLe ay ah∧SliceAt tStr ah ae af ag bq) ?_ ?_
 ·refine wc_block ?_
  obtain⟨cJ,bu,bv⟩:=ob br
  refine qw (fun (W:(List Str)×Int) E' w'=>∃O R S X,E'=[(2,sv q2),(3,V3 G m n),(4,V6 q4),(5,pt x),(6,pt y),(12,V3 O R S),(13,V6 W.2)]∧SH w K [] w' X [obj x [V3 A a b,V3 B c d] 36,obj y [V3 C f i,V3 D k l] 41,tail (V3 O R S) 9 1]∧KLe ay X∧SliceAt tStr X O R S W.1∧rng64 W.2) bu ⟨bn,0,0,ay,u,bp.f2.f2,kr,bo,d_0⟩ ?_
  rintro W _ cK cL bz bA ⟨O,R,S,X,rfl,az,T,ai,cM⟩
  refine wc_seq (sr (mv u (mv u (lv (rv_len underlying22 u (am.mono ((q.trans s).trans T))) (lv (rv_lss u u) (nq (wcc bz u (fun bB aA=>?_) (fun bB aA=>?_))))))))
  ·refine wc_skip (qs (wc_block (wc_seq (wc_quiet mixed (by kernel_rfl) az (kh (rq_loadmS (ds:=[V3 A a b,V3 B c d]) tf36 u m0 u u) (km u (km u ?_)))))))
   obtain⟨bC,bD,bE⟩:=ob aA
   refine ki underlying22 tf9 (am.mono ((q.trans s).trans T)) bD fun bF bG cN bH bI=>?_
   obtain⟨rfl,aK⟩:=bH
   have bJ:AtK _ bF bG [sv bC]:=bI
   refine kh (rq_load1 tf9 u (bJ 0 _ u)) ?_
   obtain⟨Y,aL,bK⟩:=ob bE
   refine kd co47 (fun _ _ bL aM=>(ok_spec_TermOf F) bL.enter0 (SliceAt.mono (((q.trans s).trans T).trans aM) ab) (SliceAt.mono (((q.trans s).trans T).trans aM) ac) aK aL) ?_
   obtain⟨_,_,_,⟨_,_,_,aN⟩,_⟩:=(ok_spec_TermOf F) az.enter0 (ab.mono ((q.trans s).trans T)) (ac.mono ((q.trans s).trans T)) aK aL []
   refine kv (rv_assign u) (wq_nil ?_)
   rintro cO ⟨aO,aB,aa⟩
   refine qs ?_
   obtain⟨bM,bN,bO⟩:=ob bK
   refine wc_cutg (IV w K [] aO [(2,sv q2),(3,V3 G m n),(4,V6 q4),(5,pt x),(6,pt y),(12,V3 O R S),(13,V6 W.2),(14,sv Y),(54,.bool bM)] [obj x [V3 A a b,V3 B c d] 36,obj y [V3 C f i,V3 D k l] 41,tail (V3 O R S) 9 1]) ?_ ?_
   ·refine wc_region (mv u (lv (rv_sneq (r:=([]:Str)) u u) (mv u (bt bN (fun o aC=>?_) (fun o aC=>?_)))))
    ·refine lg o (rv_move u) (lg o (rv_move u) ?_)
     obtain⟨cP,bP,bQ⟩:=ob aC
     refine wl_call (wg u u o) u (rt_call (vs:=[V3 O R S,sv Y]) co48 u) (ok_spec_l2Has F aB.enter0 (ai.mono aa) aN bP) ?_
     rintro cQ cR ⟨bR,rfl,aP⟩
     refine⟨_,u,?_⟩
     have bS:=(aB.c0 aP).t3
     refine lg o (rv_not u) (lv (rv_pick_t u o u) (wl_nil ?_))
     cases oi bQ
     exact qd ⟨bR,u,bS,aP.le⟩
    refine lu o (lu o (lu o (lu o (lv (p_f u o u) (wl_nil ?_)))))
    cases oi aC
    exact qd ⟨aO,u,aB,kr⟩
   rintro _ cS ⟨bT,rfl,aQ,aj⟩
   refine qe_seq (wcc bO u (fun bU aD=>?_) (fun bU aD=>?_))
   ·refine wc_region (mv u (mv u (lb tStr (sv Y) [sv Y] Y underlying22 tf9 ⟨u,aN⟩ aQ fun cT cU cV aR bV bW=>?_)))
    obtain⟨cW,bX,bY⟩:=ob aD
    refine lp underlying22 tf9 (ai.mono ((aa.trans aj).trans aR)) bV bX bW.f3 fun bZ ca cb cX cc cd ce cf=>(av u (nb (qe_seq (wc_region (mv u (lv (rv_add u u) (av u (wl_nil ?_))))))))
    cases oi bY
    exact qd ⟨_,u,bZ,ca,cb,cc,u,cf.f3.f3.s,((((T.trans aa).trans aj).trans aR).trans cd),ce,(w64_rng _)⟩
   refine wc_skip (qe_block (qe_seq (wc_region (mv u (lv (rv_add u u) (av u (wl_nil ?_)))))))
   cases oi aD
   exact qd ⟨_,u,O,R,S,bT,u,aQ,((T.trans aa).trans aj),(ai.mono (aa.trans aj)),(w64_rng _)⟩
  refine wc_exit (qe_then_exit (qe_then_exit ?_))
  cases oi aA
  cases bA _ u
  refine qe_block_eq ?_
  cases oi bv
  exact qd ⟨O,R,S,X,u,az,T,ai⟩
 rintro _ cY ⟨ae,af,ag,ah,rfl,ak,al,cg⟩
 refine qr (lv (rv_loadmS (ds:=[V3 A a b,V3 B c d]) tf36 u m0 ak u u) (lv (rv_loadmS (ds:=[V3 C f i,V3 D k l]) tf41 u m1 ak u u) (mv u (mv u (mv u ?_)))))
 obtain⟨cZ,ch,cj⟩:=ob bs
 refine lk co49 (ok_spec_l14Fast F ak.enter0 (ab.mono ((q.trans s).trans al)) (ac.mono ((q.trans s).trans al)) (aE.mono ((q.trans s).trans al)) (aF.mono ((q.trans s).trans al)) aG cg aH ch) ?_
 rintro da db ⟨ck,cl,cm,cn,rfl,cp,cq,cr⟩
 have cs:=(ak.c0 cp).t3
 refine lv (rv_extract u u) (lv (rv_extract u u) (av u (av u (nq (wc_ret ?_)))))
 cases oi cj
 exact qe_ret (vs:=[_,_]) results19 ⟨u,u,trivial⟩ ⟨ck,cl,cm,cn,u,cs.s,cq,cr⟩
end Go.Proofs.YtfiahfncijjliaaGreatDoor
