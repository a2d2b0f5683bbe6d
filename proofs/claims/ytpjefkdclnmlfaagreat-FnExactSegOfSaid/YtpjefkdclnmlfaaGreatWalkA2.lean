/-
 Walks of the functions. Printed by gen.py.
-/
import Derived.Test.YtpjefkdclnmlfaaGreatWalkA1
set_option linter.unusedVariables false
set_option linter.unusedSectionVars false
set_option maxRecDepth 100000
namespace Go.Proofs.YtpjefkdclnmlfaaGreat
set_option maxHeartbeats 4000000
open Go Go.Fk Go.RowKit Tryz
variable (F:Nat){w:World}{K:KMap}{Z:List Nat}{g1 g2 g3:Nat}{A B C D G H I J O R S T:Option Addr}{a b c d f i k l m n o p q s v x y aa ab ac ad ae af ag:Nat}
variable [dr:Dr]

theorem ok_spec_l7CopyDoc {q0:GDoc}{r:GDoc}(hS:SH w K [] w K [])(G:rng64 q0.Id)(H:SliceAt tGField K A a b q0.Fields)(I:SliceAt tGAttr K B c d q0.Nums)(hm:M.spec_l7CopyDoc F q0=some r):
  Calls prog 143 #[.agg #[V6 q0.Id,V3 A a b,V3 B c d]] w fun e w'=>∃a_2 n_3 c_4 a_6 n_7 c_8 K',e= .returned (.agg #[V6 r.Id,V3 a_2 n_3 c_4,V3 a_6 n_7 c_8])∧SH w K [] w' K' [tail (V3 a_2 n_3 c_4) 108 2,tail (V3 a_6 n_7 c_8) 142 2]∧rng64 r.Id∧SliceAt tGField K' a_2 n_3 c_4 r.Fields∧SliceAt tGAttr K' a_6 n_7 c_8 r.Nums:=by
 rw [M.spec_l7CopyDoc] at hm
 refine ci func143 u ntmps143 (sr (bx u hS fun aC aX aE=>?_))
 have aF:SH _ _ _ _ _ [obj aC [V6 q0.Id,V3 A a b,V3 B c d] 77]:=aE
 refine al tf77 aF fun aG aY aH=>?_
 have aI:SH _ _ _ _ _ [obj aG [V6 0,V3 none 0 0,V3 none 0 0] 77,_]:=aH
 refine ns ?_
 obtain⟨aZ,J,aJ⟩:=ob hm
 obtain⟨ba,O,R⟩:=ob aJ
 have v:=aI.drew
 refine j_0 (fun w'=>Holds K w'∧HasObj aC [V6 q0.Id,V3 A a b,V3 B c d] w') 12 [] mixed ⟨v.hasK kr,v.hasObj m1⟩ (jv 0 u (rv_fieldAddr ff77_0 u) (jh 1 u (fun _ h=>rh_loadm1 tf3 u u h.2) (jv 3 u (rv_fieldAddr ff77_1 u) (jh 4 u (fun _ h=>rh_loadm1 tf74 u u h.2) (jv 7 u (rv_fieldAddr ff77_2 u) (jh 8 u (fun _ h=>rh_loadm1 tf75 u u h.2) (j2 2 6 u u ?_ ?_)))))))
 ·refine b0 tGField underlying74 tf108 v fun bb bc bd f aD x=>(j_o ⟨x.hasK f,x.hasObj m2⟩ (j2 5 6 u u ?_ ?_))
  ·refine lp underlying74 tf108 aD (H.mono f) J x fun S T U be bf m aK V=>(j_o ⟨V.hasK (f.trans m),V.hasObj m2⟩ (j1 6 u (b0 tGAttr underlying75 tf142 V fun bg bh bi o aL W=>(j_o ⟨W.hasK ((f.trans m).trans o),W.hasObj m3⟩ (j1 9 u (lp underlying75 tf142 aL (I.mono ((f.trans m).trans o)) O W fun X Y aa bj aM ab aN ac=>(j_o ⟨ac.hasK (((f.trans m).trans o).trans ab),ac.hasObj m3⟩ (jv 10 u (rv_build (cs:=#[V6 q0.Id,V3 S T U,V3 X Y aa]) sp77 tf77 u (by kernel_rfl)) (j1 11 u ?_)))))))))
   refine lw [V6 q0.Id,V3 S T U,V3 X Y aa] tf77 ac.f2 fun bk y=>(j_o ⟨y.hasK (((f.trans m).trans o).trans ab),y.hasObj m3⟩ (jd (qe_seq (wc_ret ?_))))
   cases oi R
   exact ez results143 tf77 y m0 ⟨S,T,U,X,Y,aa,aM,u,y.f1.f2.s,G,(aK.mono (o.trans ab)),aN⟩
  refine b0 tGAttr underlying75 tf142 x fun bl bm bn i aO ad=>(j_o ⟨ad.hasK (f.trans i),ad.hasObj m3⟩ (j1 5 u (lp underlying74 tf108 (aD.mono i) (H.mono (f.trans i)) J ad.f1 fun ae af ag bo bp q aP ah=>(j_o ⟨ah.hasK ((f.trans i).trans q),ah.hasObj m3⟩ (j1 9 u (lp underlying75 tf142 (aO.mono q) (I.mono ((f.trans i).trans q)) O ah.f1 fun ai aj ak bq aQ am aR an=>(j_o ⟨an.hasK (((f.trans i).trans q).trans am),an.hasObj m3⟩ (jv 10 u (rv_build (cs:=#[V6 q0.Id,V3 ae af ag,V3 ai aj ak]) sp77 tf77 u (by kernel_rfl)) (j1 11 u ?_)))))))))
  refine lw [V6 q0.Id,V3 ae af ag,V3 ai aj ak] tf77 an.f2 fun br C=>(j_o ⟨C.hasK (((f.trans i).trans q).trans am),C.hasObj m3⟩ (jd (qe_seq (wc_ret ?_))))
  cases oi R
  exact ez results143 tf77 C m0 ⟨ae,af,ag,ai,aj,ak,aQ,u,C.f1.f2.s,G,(aP.mono am),aR⟩
 refine b0 tGAttr underlying75 tf142 v fun bs bu bv k aS ao=>(j_o ⟨ao.hasK k,ao.hasObj m2⟩ (j1 2 u (b0 tGField underlying74 tf108 ao fun bz bA bB l aT ap=>(j_o ⟨ap.hasK (k.trans l),ap.hasObj m3⟩ (j1 5 u (lp underlying74 tf108 aT (H.mono (k.trans l)) J ap fun aq ar au bC bD s aU aw=>(j_o ⟨aw.hasK ((k.trans l).trans s),aw.hasObj m3⟩ (j1 9 u (lp underlying75 tf142 (aS.mono (l.trans s)) (I.mono ((k.trans l).trans s)) O aw.f1 fun ax ay az bE aV aA aW aB=>?_)))))))))
 refine j_o ⟨aB.hasK (((k.trans l).trans s).trans aA),aB.hasObj m3⟩ (jv 10 u (rv_build (cs:=#[V6 q0.Id,V3 aq ar au,V3 ax ay az]) sp77 tf77 u (by kernel_rfl)) (j1 11 u (lw [V6 q0.Id,V3 aq ar au,V3 ax ay az] tf77 aB.f2 fun bF D=>(j_o ⟨D.hasK (((k.trans l).trans s).trans aA),D.hasObj m3⟩ (jd (qe_seq (wc_ret ?_)))))))
 cases oi R
 exact ez results143 tf77 D m0 ⟨aq,ar,au,ax,ay,az,aV,u,D.f1.f2.s,G,(aU.mono aA),aW⟩

theorem ok_spec_l7Of {q0:GConf}{q1:List GDoc}{r:GSeg}(hS:SH w K [] w K [])(bH:SliceAt tStr K A a b q0.Stops)(bI:SliceAt tGSyn K B c d q0.Syns)(aw:SliceAt tGDoc K C f i q1)(hm:M.spec_l7Of F q0 q1=some r):
  Calls prog 68 #[.agg #[V3 A a b,V3 B c d],V3 C f i] w fun e w'=>∃a_1 n_2 c_3 a_5 n_6 c_7 cs_8 K',e= .returned (.agg #[V3 a_1 n_2 c_3,V3 a_5 n_6 c_7])∧SH w K [] w' K' [tail (V3 a_1 n_2 c_3) 77 3,rowI (V3 a_5 n_6 c_7) cs_8 116 3]∧SliceAt tGDoc K' a_1 n_2 c_3 r.Docs∧RowAt true tGEntry K' cs_8 r.Entries∧n_6=r.Entries.length:=by
 rw [M.spec_l7Of] at hm
 refine ci func68 u ntmps68 (sr (bx u hS fun o ee cc=>?_))
 have cd:SH _ _ _ _ _ [obj o [V3 A a b,V3 B c d] 33]:=cc
 refine al tf46 cd fun l ef ce=>?_
 have cf:SH _ _ _ _ _ [obj l [V3 none 0 0,V3 none 0 0] 46,_]:=ce
 refine nr (lv (rv_build (cs:=#[V3 none 0 0,V3 none 0 0]) sp46 tf46 u (by kernel_rfl)) (al tf46 cf fun k eg cg=>?_))
 have ch:SH _ _ _ _ _ [obj k [V3 none 0 0,V3 none 0 0] 46,_,_]:=cg
 refine lw [V3 none 0 0,V3 none 0 0] tf46 ch fun eh bJ=>(nr (mv u ?_))
 obtain⟨ei,cj,ck⟩:=ob hm
 refine lk co140 (ok_spec_l7Names F bJ.enter0 aw cj) ?_
 rintro ej ek ⟨aW,aX,aY,aZ,rfl,q,ba⟩
 have cl:=(bJ.c0 q).t4
 refine av u (nsr (lv (r_0 u) (nq ?_)))
 obtain⟨bb,cm,cn⟩:=ob ck
 refine wc_cutg (fun E' w'=>∃ax ay az aL aA aM cs53 x,E'=[(1,V3 C f i),(4,pt l),(5,pt k)]∧SH w K [] w' x [obj l [V3 none 0 0,V3 none 0 0] 46,obj k [V3 ax ay az,V3 aL aA aM] 46,rowI (V3 aL aA aM) cs53 116 3,tail (V3 ax ay az) 77 3]∧KLe aZ x∧SliceAt tGDoc x ax ay az bb.Docs∧RowAt true tGEntry x cs53 bb.Entries∧aA=bb.Entries.length) ?_ ?_
 ·refine wc_block ?_
  obtain⟨el,cp,cq⟩:=ob cm
  have cr:=SH.rowNil cl 116 3
  have ct:=cr.nil 77 3
  have cu:=ct.f1.f3.f4.f5.sb (sk (sk (sk (sk (sk (sd sz))))))
  refine qw (fun (y:Int×GSeg) E' w'=>∃ac ad ae aB af aC cs72 S,E'=[(1,V3 C f i),(2,pt o),(4,pt l),(5,pt k),(6,V3 aW aX aY),(7,V6 y.1)]∧SH w K [] w' S [obj o [V3 A a b,V3 B c d] 33,obj l [V3 none 0 0,V3 none 0 0] 46,obj k [V3 ac ad ae,V3 aB af aC] 46,rowI (V3 aB af aC) cs72 116 3,tail (V3 ac ad ae) 77 3]∧KLe aZ S∧rng64 y.1∧SliceAt tGDoc S ac ad ae y.2.Docs∧RowAt true tGEntry S cs72 y.2.Entries∧af=y.2.Entries.length) cp ⟨none,0,0,none,0,0,[],aZ,u,cu,kr,d_0,(SliceAt.nil _ _),(RowAt.nil tGEntry _),u⟩ ?_
  rintro y _ em en cv cw ⟨ac,ad,ae,aB,af,aC,cs72,S,rfl,bK,m,eo,bL,hrow73,hm74⟩
  refine wc_seq (sr (mv u (mv u (lv (rv_len underlying22 u (ba.mono m)) (lv (rv_lss u u) (nq (wcc cv u (fun cx bc=>?_) (fun cx bc=>?_))))))))
  ·refine wc_skip (qs (wc_block (wc_seq ?_)))
   have aN:=bK.drew
   refine wh1 (fun w'=>Holds S w'∧HasObj o [V3 A a b,V3 B c d] w') (fun w'=>True) 8 [] mixed ⟨aN.hasK kr,aN.hasObj m0⟩ (fun _=>trivial) (gh (fun _ h=>rh_loadmS (ds:=[V3 A a b,V3 B c d]) tf33 u u u h.2) (gt (rv_move u) (gt (rv_move u) (gt (rv_move u) ?_))))
   obtain⟨cy,cz,cA⟩:=ob bc
   refine gi underlying22 tf9 (ba.mono m) cz fun cB cC ep cD cE=>?_
   obtain⟨rfl,cF⟩:=cD
   have cG:AtK _ cB cC [sv cy]:=cE
   refine gh (fun _ h=>rh_load1 tf9 u (cG 0 _ u) h.1) (gn ?_)
   obtain⟨eq,cH,cI⟩:=ob cA
   refine lk co141 (ok_spec_l7Terms F aN.enter0 (bH.mono (q.le.trans m)) (bI.mono (q.le.trans m)) (aw.mono (q.le.trans m)) cF cH) ?_
   rintro es et ⟨cJ,cK,cL,bd,rfl,s,bM⟩
   have be:=(aN.c0 s).t6
   refine wl_nil (qh ⟨be.hasK s.le,be.hasObj m1⟩ (fun _=>trivial) (gt (rv_assign u) (gd' (qr (lv (r_0 u) (nq ?_))))))
   obtain⟨bf,cM,cN⟩:=ob cI
   refine wc_cutg (fun E' w'=>∃aD aE aF aO aG aP cs125 ag,E'=[(1,V3 C f i),(2,pt o),(4,pt l),(5,pt k),(6,V3 aW aX aY),(7,V6 y.1)]∧SH w K [] w' ag [obj o [V3 A a b,V3 B c d] 33,obj l [V3 none 0 0,V3 none 0 0] 46,obj k [V3 aD aE aF,V3 aO aG aP] 46,rowI (V3 aO aG aP) cs125 116 3,tail (V3 aD aE aF) 77 3]∧KLe bd ag∧SliceAt tGDoc ag aD aE aF bf.Docs∧RowAt true tGEntry ag cs125 bf.Entries∧aG=bf.Entries.length) ?_ ?_
   ·refine wc_block ?_
    obtain⟨eu,cO,cP⟩:=ob cM
    have cQ:=be.sb (sd (sk (sk (sk (sk (sk sz))))))
    refine qw (fun (ah:Int×GSeg) E' w'=>∃D G H aH ai aI cs144 T,E'=[(1,V3 C f i),(2,pt o),(4,pt l),(5,pt k),(6,V3 aW aX aY),(7,V6 y.1),(8,V3 cJ cK cL),(9,V6 ah.1)]∧SH w K [] w' T [obj o [V3 A a b,V3 B c d] 33,obj l [V3 none 0 0,V3 none 0 0] 46,obj k [V3 D G H,V3 aH ai aI] 46,rowI (V3 aH ai aI) cs144 116 3,tail (V3 D G H) 77 3]∧KLe bd T∧rng64 ah.1∧SliceAt tGDoc T D G H ah.2.Docs∧RowAt true tGEntry T cs144 ah.2.Entries∧ai=ah.2.Entries.length) cO ⟨ac,ad,ae,aB,af,aC,cs72,bd,u,cQ,kr,d_0,(bL.mono s.le),(RowAt.mono s.le hrow73),hm74⟩ ?_
    rintro ah _ ev ew cR cS ⟨D,G,H,aH,ai,aI,cs144,T,rfl,bN,I,ex,bO,hrow145,hm146⟩
    refine wc_seq (sr (mv u (mv u (lv (rv_len underlying22 u (bM.mono I)) (lv (rv_lss u u) (nq (wcc cR u (fun cT bg=>?_) (fun cT bg=>?_))))))))
    ·refine wc_skip (qs (wc_block ?_))
     have aJ:=bN.drew
     refine wh1 (fun w'=>Holds T w'∧HasObj o [V3 A a b,V3 B c d] w') (fun w'=>HasObj k [V3 D G H,V3 aH ai aI] w') 16 [(1,14),(1,15),(1,16),(14,15),(14,16),(15,16)] mixed ⟨aJ.hasK kr,aJ.hasObj m0⟩ (fun _=>aJ.hasObj (.tail _ (.tail _ (.head _)))) (gt (rv_fieldAddr ff46_1 u) (gf (fun _ h=>rh_loadm1 tf44 u u h) (gh (fun _ h=>rh_loadmS (ds:=[V3 A a b,V3 B c d]) tf33 u u u h.2) (gt (rv_move u) (gt (rv_move u) (gt (rv_move u) ?_))))))
     obtain⟨cU,cV,cW⟩:=ob bg
     refine gi underlying22 tf9 (ba.mono ((m.trans s.le).trans I)) cV fun cX cY eA cZ da=>?_
     obtain⟨rfl,db⟩:=cZ
     have dc:AtK _ cX cY [sv cU]:=da
     refine gh (fun _ h=>rh_load1 tf9 u (dc 0 _ u) h.1) (gt (rv_move u) (gt (rv_move u) ?_))
     obtain⟨dd,de,df⟩:=ob cW
     refine gi underlying22 tf9 (bM.mono I) de fun dg dh eB di dj=>?_
     obtain⟨rfl,dk⟩:=di
     have dl:AtK _ dg dh [sv dd]:=dj
     refine gh (fun _ h=>rh_load1 tf9 u (dl 0 _ u) h.1) (gn ?_)
     obtain⟨aK,dm,dn⟩:=ob df
     refine lk co142 (ok_spec_l7Entry F aJ.enter0 (SliceAt.mono (((q.le.trans m).trans s.le).trans I) bH) (SliceAt.mono (((q.le.trans m).trans s.le).trans I) bI) (SliceAt.mono (((q.le.trans m).trans s.le).trans I) aw) db dk dm) ?_
     rintro eC eD ⟨bh,bi,bj,eE,rfl,J,dp,dq,dr⟩
     have aQ:=(aJ.c0 J).t6
     refine wl_nil (qh ⟨aQ.hasK J.le,aQ.hasObj m1⟩ (fun _=>aQ.hasObj (.tail _ (.tail _ (.tail _ (.head _))))) (gn (lb tGEntry (.agg #[sv aK.Field,sv aK.Term,V3 bh bi bj]) [sv aK.Field,sv aK.Term,V3 bh bi bj] aK underlying44 tf116 ⟨bh,bi,bj,u,dp,dq,dr⟩ aQ fun eF eG dt aj du aR=>(wl_nil (qh ⟨aR.hasK (J.le.trans aj),aR.hasObj m2⟩ (fun _=>aR.hasObj (.tail _ (.tail _ (.tail _ (.tail _ (.head _)))))) (gn ?_))))))
     obtain⟨eH,dv,dw⟩:=ob dn
     refine wl_appendR (t:=tGEntry) wn u underlying44 tf116 u u u u (RowAt.mono (J.le.trans aj) hrow145) hm146 du dv aR.f5 fun bk bl bm cs202 eI hrow204 hm205 aS=>(wl_nil (qh ⟨aS.hasK (J.le.trans aj),aS.hasObj m3⟩ (fun _=>aS.hasObj (.tail _ (.tail _ (.tail _ (.tail _ (.tail _ (.head _))))))) (gt (rv_fieldAddr ff46_1 u) (gn (ls [V3 D G H,V3 bk bl bm] (V3 bk bl bm) tf44 aS.f5 fun eJ bn=>(wl_nil (qh ⟨bn.hasK (J.le.trans aj),bn.hasObj m4⟩ (fun h=>nomatch h) (gd' (qe_block (qe_seq (wc_region ?_)))))))))))
     refine mv u (lv (rv_add u u) (av u (wl_nil ?_)))
     cases oi dw
     exact qd ⟨_,u,D,G,H,bk,bl,bm,cs202,dt,u,bn.f6.f2.f2.f6.f6.s,((I.trans J.le).trans aj),(w64_rng _),(bO.mono (J.le.trans aj)),hrow204,hm205⟩
    refine wc_exit (qe_then_exit (qe_then_exit ?_))
    cases oi bg
    cases cS _ u
    refine qe_block_eq ?_
    cases oi cP
    exact qd ⟨D,G,H,aH,ai,aI,cs144,T,u,bN,I,bO,hrow145,hm146⟩
   rintro _ eK ⟨aD,aE,aF,aO,aG,aP,cs125,ag,rfl,dx,dy,dz,hrow126,hm127⟩
   refine qe_block (qe_seq (wc_region (mv u (lv (rv_add u u) (av u (wl_nil ?_))))))
   cases oi cN
   exact qd ⟨_,u,aD,aE,aF,aO,aG,aP,cs125,ag,u,dx,((m.trans s.le).trans dy),(w64_rng _),dz,hrow126,hm127⟩
  refine wc_exit (qe_then_exit (qe_then_exit ?_))
  cases oi bc
  cases cw _ u
  refine qe_block_eq ?_
  cases oi cq
  exact qd ⟨ac,ad,ae,aB,af,aC,cs72,S,u,bK.s,m,bL,hrow73,hm74⟩
 rintro _ eL ⟨ax,ay,az,aL,aA,aM,cs53,x,rfl,dA,bP,dB,hrow54,hm55⟩
 refine qs (sr (lv (r_0 u) (nq ?_)))
 obtain⟨bo,dC,dD⟩:=ob cn
 refine wc_cutg (fun E' w'=>∃U V W ak X am cs233 an,E'=[(4,pt l),(5,pt k)]∧SH w K [] w' an [obj l [V3 none 0 0,V3 none 0 0] 46,obj k [V3 U V W,V3 ak X am] 46,rowI (V3 ak X am) cs233 116 3,tail (V3 U V W) 77 3]∧KLe x an∧SliceAt tGDoc an U V W bo.Docs∧RowAt true tGEntry an cs233 bo.Entries∧X=bo.Entries.length) ?_ ?_
 ·refine wc_block ?_
  obtain⟨eM,dE,dF⟩:=ob dC
  refine qw (fun (ao:Int×GSeg) E' w'=>∃ap aq ar Y O aa cs252 ab,E'=[(1,V3 C f i),(4,pt l),(5,pt k),(10,V6 ao.1)]∧SH w K [] w' ab [obj l [V3 none 0 0,V3 none 0 0] 46,obj k [V3 ap aq ar,V3 Y O aa] 46,rowI (V3 Y O aa) cs252 116 3,tail (V3 ap aq ar) 77 3]∧KLe x ab∧rng64 ao.1∧SliceAt tGDoc ab ap aq ar ao.2.Docs∧RowAt true tGEntry ab cs252 ao.2.Entries∧O=ao.2.Entries.length) dE ⟨ax,ay,az,aL,aA,aM,cs53,x,u,dA,kr,d_0,dB,hrow54,hm55⟩ ?_
  rintro ao _ eN eO dG dH ⟨ap,aq,ar,Y,O,aa,cs252,ab,rfl,bQ,aT,eP,bR,hrow253,hm254⟩
  refine wc_seq (sr (mv u (mv u (lv (rv_len underlying43 u (aw.mono ((q.le.trans bP).trans aT))) (lv (rv_lss u u) (nq (wcc dG u (fun dI bp=>?_) (fun dI bp=>?_))))))))
  ·refine wc_skip (qs (wc_block ?_))
   have aU:=bQ.drew
   refine wh1 (fun w'=>Holds ab w') (fun w'=>HasObj k [V3 ap aq ar,V3 Y O aa] w') 10 [(1,8),(1,9),(1,10),(8,9),(8,10),(9,10)] mixed (aU.hasK kr) (fun _=>aU.hasObj (.tail _ (.head _))) (gt (rv_fieldAddr ff46_0 u) (gf (fun _ h=>rh_loadm1 tf43 u u h) (gt (rv_move u) (gt (rv_move u) ?_))))
   obtain⟨bS,dJ,dK⟩:=ob bp
   refine gi underlying43 tf77 (aw.mono ((q.le.trans bP).trans aT)) dJ fun dL dM eQ dN dO=>?_
   obtain⟨bT,bU,bV,bW,bX,bY,rfl,dP,dQ,dR⟩:=dN
   have dS:AtK _ dL dM [V6 bS.Id,V3 bT bU bV,V3 bW bX bY]:=dO
   refine gh (fun _ h=>rh_loadS (cs:=[V6 bS.Id,V3 bT bU bV,V3 bW bX bY]) tf77 u dS u h) (gn ?_)
   obtain⟨bq,dT,dU⟩:=ob dK
   refine lk co143 (ok_spec_l7CopyDoc F aU.enter0 dP dQ dR dT) ?_
   rintro eR eS ⟨br,bs,bu,bv,bz,bA,eT,rfl,R,dV,dW,dX⟩
   have bB:=(aU.c0 R).t6
   refine wl_nil (qh (bB.hasK R.le) (fun _=>bB.hasObj (.tail _ (.tail _ (.tail _ (.head _))))) (gn (lb tGDoc (.agg #[V6 bq.Id,V3 br bs bu,V3 bv bz bA]) [V6 bq.Id,V3 br bs bu,V3 bv bz bA] bq underlying43 tf77 ⟨br,bs,bu,bv,bz,bA,u,dV,dW,dX⟩ bB fun eU eV eW au dY bC=>(wl_nil (qh (bC.hasK (R.le.trans au)) (fun _=>bC.hasObj (.tail _ (.tail _ (.tail _ (.tail _ (.head _)))))) (gn ?_))))))
   obtain⟨eX,dZ,ea⟩:=ob dU
   refine lp underlying43 tf77 (bR.mono (R.le.trans au)) dY dZ bC.f6 fun bD bE bF eY eb aV ec bG=>(wl_nil (qh (bG.hasK ((R.le.trans au).trans aV)) (fun _=>bG.hasObj (.tail _ (.tail _ (.tail _ (.tail _ (.tail _ (.head _))))))) (gt (rv_fieldAddr ff46_0 u) (gn (ls [V3 bD bE bF,V3 Y O aa] (V3 bD bE bF) tf43 bG.f5 fun eZ bZ=>(wl_nil (qh (bZ.hasK ((R.le.trans au).trans aV)) (fun h=>nomatch h) (gd' (qe_block (qe_seq (wc_region ?_)))))))))))
   refine mv u (lv (rv_add u u) (av u (wl_nil ?_)))
   cases oi ea
   exact qd ⟨_,u,bD,bE,bF,Y,O,aa,cs252,eb,u,bZ.f1.f6.f2.f6.s,(((aT.trans R.le).trans au).trans aV),(w64_rng _),ec,(RowAt.mono ((R.le.trans au).trans aV) hrow253),hm254⟩
  refine wc_exit (qe_then_exit (qe_then_exit ?_))
  cases oi bp
  cases dH _ u
  refine qe_block_eq ?_
  cases oi dF
  exact qd ⟨ap,aq,ar,Y,O,aa,cs252,ab,u,bQ,aT,bR,hrow253,hm254⟩
 rintro _ fb ⟨U,V,W,ak,X,am,cs233,an,rfl,ca,fc,ed,hrow234,hm235⟩
 refine qr (lv (rv_loadmS (ds:=[V3 U V W,V3 ak X am]) tf46 u m1 ca u u) (lw [V3 U V W,V3 ak X am] tf46 ca fun fd cb=>(nq (wc_ret ?_))))
 cases oi dD
 exact ez results68 tf46 cb m0 ⟨U,V,W,ak,X,am,cs233,an,u,cb.f2.f3.s,ed,hrow234,hm235⟩

theorem ok_spec_SegOf {q0:GConf}{q1:List GDoc}{r:GSeg}(hS:SH w K [] w K [])(H:SliceAt tStr K A a b q0.Stops)(I:SliceAt tGSyn K B c d q0.Syns)(J:SliceAt tGDoc K C f i q1)(hm:M.spec_SegOf F q0 q1=some r):
  Calls prog 18 #[.agg #[V3 A a b,V3 B c d],V3 C f i] w fun e w'=>∃a_1 n_2 c_3 a_5 n_6 c_7 K',e= .returned (.agg #[V3 a_1 n_2 c_3,V3 a_5 n_6 c_7])∧SH w K [] w' K' [tail (V3 a_1 n_2 c_3) 77 3,tail (V3 a_5 n_6 c_7) 116 3]∧SliceAt tGDoc K' a_1 n_2 c_3 r.Docs∧SliceAt tGEntry K' a_5 n_6 c_7 r.Entries:=by
 rw [M.spec_SegOf] at hm
 refine ci func18 u ntmps18 (sr (bx u hS fun o aE aa=>?_))
 have ab:SH _ _ _ _ _ [obj o [V3 A a b,V3 B c d] 33]:=aa
 refine al tf46 ab fun q aF ac=>?_
 have s:SH _ _ _ _ _ [obj q [V3 none 0 0,V3 none 0 0] 46,_]:=ac
 refine ns (wc_seq ?_)
 obtain⟨ad,ae,af⟩:=ob hm
 refine wc_cutg (IV w K [] K [(1,V3 C f i),(2,pt o),(4,pt q),(12,.bool ad)] [obj o [V3 A a b,V3 B c d] 33,obj q [V3 none 0 0,V3 none 0 0] 46]) ?_ ?_
 ·refine wc_region (lv (rv_loadmS (ds:=[V3 A a b,V3 B c d]) tf33 u m1 s u u) ?_)
  obtain⟨aG,ag,ah⟩:=ob ae
  refine lk co66 (ok_spec_l2Ok F s.enter0 H I ag) ?_
  rintro aH aI ⟨ai,rfl,l⟩
  have x:=(s.c0 l).t2
  refine lv (rv_not u) (mv u (bt ah (fun k y=>?_) (fun k y=>?_)))
  ·refine lu k (lu k (lu k (lv (p_t u k u) (wl_nil ?_))))
   cases oi y
   exact qd ⟨ai,u,x.f1,l.le⟩
  refine lg k (rv_move u) ?_
  obtain⟨aJ,aj,ak⟩:=ob y
  refine wl_call (wg u u k) u (rt_call (vs:=[V3 C f i]) co67 u) (ok_spec_l6Docs F x.enter0 (J.mono l.le) aj) ?_
  rintro aK aL ⟨am,rfl,O⟩
  refine⟨_,u,?_⟩
  have an:=(x.c0 O).t2
  refine lg k (rv_not u) (lv (rv_pick_f u k u) (wl_nil ?_))
  cases oi ak
  exact qd ⟨am,u,an.f1,(l.le.trans O.le)⟩
 rintro _ aM ⟨ao,rfl,m,D⟩
 refine qe_seq (wcc af u (fun ap G=>?_) (fun ap G=>?_))
 ·refine sr (lv (rv_build (cs:=#[V3 none 0 0,V3 none 0 0]) sp46 tf46 u (by kernel_rfl)) (lw [V3 none 0 0,V3 none 0 0] tf46 m.f1 fun aN R=>(nq (rr ?_))))
  cases oi G
  have aq:=R.nil 77 3
  have ar:=aq.nil 116 3
  exact ez results18 tf46 R m0 ⟨none,0,0,none,0,0,ao,u,ar.f1.s,(SliceAt.nil _ _),(SliceAt.nil _ _)⟩
 refine wc_skip (qr (lv (rv_loadmS (ds:=[V3 A a b,V3 B c d]) tf33 u m0 m u u) (mv u ?_)))
 obtain⟨aO,au,aw⟩:=ob G
 refine lk co68 (ok_spec_l7Of F m.enter0 (H.mono D) (I.mono D) (J.mono D) au) ?_
 rintro aP aQ ⟨S,T,U,V,W,X,cs71,aR,rfl,ax,ay,hrow72,hm73⟩
 have az:=(m.c0 ax).t4
 obtain⟨aA,aB,aC,aD⟩:=SH.freezeI az.f1 hrow72 hm73
 refine lw [V3 S T U,V3 V W X] tf46 aD.f3 fun aS Y=>(nq (wc_ret ?_))
 cases oi aw
 exact ez results18 tf46 Y m0 ⟨S,T,U,V,W,X,aA,u,Y.f1.f2.s,(ay.mono aB),aC⟩

theorem ok_laws_toStringS {q0:List Str}{r:(List Str)}(hS:SH w K [] w K [])(s:SliceAt tStr K A a b q0)(hm:M.laws_toStringS F q0=some r):
  Calls prog 69 #[V3 A a b] w fun e w'=>∃a_1 n_2 c_3 K',e= .returned (V3 a_1 n_2 c_3)∧SH w K [] w' K' [tail (V3 a_1 n_2 c_3) 9 1]∧SliceAt tStr K' a_1 n_2 c_3 r:=by
 rw [M.laws_toStringS] at hm
 refine ci func69 u ntmps69 (sr (lv (r_n u) (nr (mv u (lv (rv_len underlying22 u s) ?_)))))
 obtain⟨H,I,J⟩:=ob hm
 refine wl_make (t:=tStr) wn u underlying22 tf9 u u u I ⟨u,(by decide :([]:Str).length≤maxLen)⟩ hS fun k cs9 ao hmx13 hrow11 O=>?_
 obtain⟨m14,hm15⟩: ∃m,m=H.length:=⟨_,u⟩
 rw [←hm15] at hmx13
 rw [←hm15]
 refine av u (nsr (lv (r_0 u) (nq ?_)))
 obtain⟨C,R,S⟩:=ob J
 refine wc_cutg (fun E' w'=>∃cs23 l,E'=[(3,V3 (some ⟨k,0,none⟩) m14 m14)]∧SH w K [] w' l [obj k cs23 9]∧KLe K l∧RowAt true tStr l cs23 C∧m14=C.length) ?_ ?_
 ·refine wc_block ?_
  obtain⟨ap,T,U⟩:=ob R
  refine qw (fun (c:Int×(List Str)) E' w'=>∃cs36 f,E'=[(0,V3 A a b),(3,V3 (some ⟨k,0,none⟩) m14 m14),(4,V6 c.1)]∧SH w K [] w' f [obj k cs36 9]∧KLe K f∧rng64 c.1∧RowAt true tStr f cs36 c.2∧m14=c.2.length) T ⟨cs9,K,u,O,kr,d_0,hrow11,hm15⟩ ?_
  rintro c _ aq ar V W ⟨cs36,f,rfl,x,o,au,hrow37,hm38⟩
  refine wc_seq (sr (mv u (mv u (lv (rv_len underlying22 u (s.mono o)) (lv (rv_lss u u) (nq (wcc V u (fun X y=>?_) (fun X y=>?_))))))))
  ·refine wc_skip (qs (wc_block (wc_region (mv u (mv u (mv u (mv u ?_)))))))
   obtain⟨q,Y,aa⟩:=ob y
   refine li underlying22 tf9 (s.mono o) Y fun ab ac aw ad ae=>?_
   obtain⟨rfl,af⟩:=ad
   have ag:AtK _ ab ac [sv q]:=ae
   refine lv (rv_load1 tf9 u x (ag 0 _ u)) ?_
   obtain⟨ah,B,ai⟩:=ob aa
   obtain⟨ax,aj,ak⟩:=RowAt.at hrow37 B
   obtain⟨rfl,ay⟩:=aj
   have az: ∀(j:Nat) (d:Value),[sv ah][j]? =some d→cs36[c.1.toNat*tStr.size+j]? =some d:=ak
   refine lv (rv_indexRow (t:=tStr) underlying22 tf9 u u hm38 B) (wl_storeRow (t:=tStr) (v:=sv q) (e:=q) wn tf9 u u ⟨u,af⟩ x hrow37 B fun cs62 aA hrow64 al=>?_)
   have hm66:=hm38.trans (List.length_set (i:=c.1.toNat) (a:=q)).symm
   refine nb (qe_seq (wc_region (mv u (lv (rv_add u u) (av u (wl_nil ?_))))))
   cases oi ai
   exact qd ⟨_,u,cs62,f,u,al,o,(w64_rng _),hrow64,hm66⟩
  refine wc_exit (qe_then_exit (qe_then_exit ?_))
  cases oi y
  cases W _ u
  refine qe_block_eq ?_
  cases oi U
  exact qd ⟨cs36,f,u,x,o,hrow37,hm38⟩
 rintro _ aB ⟨cs23,l,rfl,am,aC,hrow24,hm25⟩
 refine qr (mv u (av u (nq (wc_ret ?_))))
 obtain⟨an,aD,D,G⟩:=SH.freeze am hrow24 (row_max hm25 hmx13)
 rw [←hm25] at D G
 cases oi S
 exact ey results69 ⟨(some ⟨k,0,none⟩),m14,m14,an,u,G,D⟩

theorem bag_laws_toStringS (F:Nat){w:World}{K:KMap}{a1:Option Addr}{n2 c3:Nat}{p0_a:List Str}{r:(List Str)}(hS:SH w K [] w K [])(hs4:SliceAt tStr K a1 n2 c3 p0_a)(hm:M.laws_toStringS F p0_a=some r):
  Calls Tryz.prog 69 #[.slice a1 n2 c3] w fun e w'=>∃(a_1:Option Addr) (n_2 c_3:Nat) (K':KMap) (B':List Nat),e= .returned (.slice a_1 n_2 c_3)∧SH w K [] w' K' [bag B']∧SliceAt tStr (K'.only B') a_1 n_2 c_3 r:=
 (ok_laws_toStringS F hS hs4 hm).mono fun e w' ⟨a,n,c,K',he,hS',hs'⟩=>
  let ⟨B,hB,hb⟩:=SH.bagTail hS'
  ⟨a,n,c,K',B,he,hB,SliceAt.only_flat (t:=tStr) (fun h=>h) hs' hb⟩

theorem bag_laws_toSyn (F:Nat){w:World}{K:KMap}{a1:Option Addr}{n2 c3:Nat}{p0_a:GSyn}{r:GSyn}(hS:SH w K [] w K [])(hs4:SliceAt tStr K a1 n2 c3 p0_a.From)(hl5:p0_a.To.length≤maxLen)(hm:M.laws_toSyn F p0_a=some r):
  Calls Tryz.prog 144 #[.agg #[.slice a1 n2 c3,sv p0_a.To]] w fun e w'=>∃(a_1:Option Addr) (n_2 c_3:Nat) (K':KMap) (B':List Nat),e= .returned (.agg #[.slice a_1 n_2 c_3,sv r.To])∧SH w K [] w' K' [bag B']∧SliceAt tStr (K'.only B') a_1 n_2 c_3 r.From∧r.To.length≤maxLen:=by
 rw [M.laws_toSyn] at hm
 refine calls_in Tryz.func144 u Tryz.ntmps144 u ?_
 refine sr ?_
 refine wl_box wn u u hS ?_
 intro g6 w7 hS8
 have hS9:SH _ _ _ _ _ [obj g6 [.slice a1 n2 c3,sv p0_a.To] 170]:=hS8
 refine wl_alloc wn u tf159 hS9 ?_
 intro g10 w11 hS12
 have hS13:SH _ _ _ _ _ [obj g10 [.slice none 0 0,sv []] 159,_]:=hS12
 refine nr ?_
 refine wl_alloc wn u tf159 hS13 ?_
 intro g14 w15 hS16
 have hS17:SH _ _ _ _ _ [obj g14 [.slice none 0 0,sv []] 159,_,_]:=hS16
 refine nr ?_
 refine wl_val wn u (rv_fieldAddr ff170_0 u) ?_
 refine wl_val wn u (rv_loadm1 tf22 u (.tail _ (.tail _ (.head _))) hS17 u) ?_
 obtain⟨r18,hx19,h20⟩:=ob hm
 refine wl_call wn u (rt_call (vs:=[.slice a1 n2 c3]) co69 u) ((bag_laws_toStringS F) hS17.enter0 hs4 hx19) ?_
 rintro e28 w22 ⟨a24,n25,c26,K21,B21,rfl,hS23,hs27⟩
 refine⟨_,u,?_⟩
 have hS29:SH _ _ _ _ _ [_,_,_,_]:=SH.call0 hS17 hS23
 refine wl_val wn u (rv_fieldAddr ff159_0 u) ?_
 have hS30:SH _ _ _ _ _ [_,_,_,_]:=SH.front (p:=[_]) hS29
 refine wl_store (cs':=[.slice a24 n25 c26,sv []]) (v:=.slice a24 n25 c26) wn tf22 u u u (by simp [Value.cells,Value.oneCell']) hS30 u u ?_
 intro w31 hS32
 refine nr ?_
 refine wl_val wn u (rv_fieldAddr ff170_1 u) ?_
 refine wl_val wn u (rv_loadm1 tf9 u (.tail _ (.tail _ (.tail _ (.head _)))) hS32 u) ?_
 refine wl_val wn u (rv_fieldAddr ff159_1 u) ?_
 refine wl_store (cs':=[.slice a24 n25 c26,sv p0_a.To]) (v:=sv p0_a.To) wn tf9 u u u (by simp [Value.cells,Value.oneCell',sv]) hS32 u u ?_
 intro w33 hS34
 refine nr ?_
 refine wl_val wn u (rv_loadmS (ds:=[.slice a24 n25 c26,sv p0_a.To]) tf159 u (.head _) hS34 u u) ?_
 have hS35:SH _ _ _ _ _ [_,_,_,_]:=SH.front (p:=[_,_]) hS34
 refine wl_store (cs':=[.slice a24 n25 c26,sv p0_a.To]) (v:=.agg #[.slice a24 n25 c26,sv p0_a.To]) wn tf159 u u u (by simp [Value.cells,Value.oneCell',sv]) hS35 u u ?_
 intro w36 hS37
 refine nq ?_
 refine wc_ret ?_
 obtain rfl:=oi h20
 have hS38:SH _ _ _ _ _ [_]:=SH.sublist hS37 (.cons _ (.cons _ (.cons_cons _ (.cons _ .slnil))))
 exact qe_ret (vs:=[_]) Tryz.results144 ⟨⟨_,_,u,run_loadVar_at tf159 (cs:=[.slice a24 n25 c26,sv p0_a.To]) (fun j c e=>by rw [Nat.zero_add,hS37.mem_obj (.head _)];exact e) (.inl ⟨u,u,u⟩)⟩,trivial⟩ ⟨a24,n25,c26,K21,B21,u,hS38,(SliceAt.mono (only_mono (KLe.refl _) fun _ h=>h) hs27),hl5⟩

theorem bag_laws_toSynS (F:Nat){w:World}{K:KMap}{a1:Option Addr}{n2 c3:Nat}{p0_a:List GSyn}{r:(List GSyn)}(hS:SH w K [] w K [])(hs4:SliceAt tGSyn K a1 n2 c3 p0_a)(hm:M.laws_toSynS F p0_a=some r):
  Calls Tryz.prog 70 #[.slice a1 n2 c3] w fun e w'=>∃(a_1:Option Addr) (n_2 c_3:Nat) (K':KMap) (B':List Nat),e= .returned (.slice a_1 n_2 c_3)∧SH w K [] w' K' [bag B']∧SliceAt tGSyn (K'.only B') a_1 n_2 c_3 r:=by
 rw [M.laws_toSynS] at hm
 refine calls_in Tryz.func70 u Tryz.ntmps70 u ?_
 refine sr ?_
 refine wl_val wn u (rv_assign (v:=.slice none 0 0) u) ?_
 refine nr ?_
 refine vm u u ?_
 refine wl_val wn u (rv_len (t:=tGSyn) Tryz.underlying23 u hs4) ?_
 obtain⟨x5,hx6,h7⟩:=ob hm
 refine wl_make (t:=Ty.fix tGSyn (K.only [])) wn u Tryz.underlying31 tf159 u u u hx6 ⟨none,0,0,u,(SliceAt.nil _ _),(by decide :([]:Str).length≤maxLen)⟩ hS ?_
 intro g8 cs9 w10 hmx13 hrow11 hS12
 obtain⟨m14,hm15⟩: ∃m,m=x5.length:=⟨_,u⟩
 rw [←hm15] at hmx13
 rw [←hm15]
 refine va u u ?_
 refine nsr ?_
 refine wl_val wn u (rv_assign (v:=.int .i64 0) u) ?_
 refine nq ?_
 obtain⟨o16,h17,h18⟩:=ob h7
 refine wc_cutg (fun E' w'=>∃(cs23:List Value) (K19:KMap) (B19:List Nat),E'=[(3,.slice (some ⟨g8,0,none⟩) m14 m14)]∧SH w K [] w' K19 [obj g8 cs23 159,bag B19]∧KLe K K19∧RowAt true tGSyn (K19.only B19) cs23 o16∧m14=o16.length) ?_ ?_
 ·refine wc_block ?_
  obtain⟨r27,h28,h29⟩:=ob h17
  refine wc_while' (fun (s26:Int×(List GSyn)) E' w'=>∃(cs36:List Value) (K30:KMap) (B30:List Nat),E'=[(0,.slice a1 n2 c3),(3,.slice (some ⟨g8,0,none⟩) m14 m14),(4,.int .i64 s26.1)]∧SH w K [] w' K30 [obj g8 cs36 159,bag B30]∧KLe K K30∧rng64 s26.1∧RowAt true tGSyn (K30.only B30) cs36 s26.2∧m14=s26.2.length) h28 ⟨cs9,K,[],u,(SH.perm (SH.bag0 hS12) (List.Perm.swap _ _ _)),(KLe.refl _),d_0,hrow11,hm15⟩ ⟨u,u,u,trivial⟩ ?_
  rintro s26 _ w33 r39 h40 hx41 ⟨cs36,K30,B30,rfl,hS34,hl31,hr35,hrow37,hm38⟩
  refine wc_seq ?_
  refine sr ?_
  refine vm u u ?_
  refine vm u u ?_
  refine wl_val wn u (rv_len (t:=tGSyn) Tryz.underlying23 u (SliceAt.mono hl31 hs4)) ?_
  refine wl_val wn u (rv_lss u u) ?_
  refine nq ?_
  refine wc_cond u (fun hb42=>?_) (fun hb42=>?_)
  ·have h43:=cond_t hb42 h40
   refine wc_skip ?_
   refine qs ?_
   refine wc_block ?_
   refine wc_region ?_
   refine vm u u ?_
   refine vm u u ?_
   refine vm u u ?_
   refine vm u u ?_
   obtain⟨x44,hx45,h46⟩:=ob h43
   refine wl_indexAddr (t:=tGSyn) wn u Tryz.underlying23 tf170 u u (SliceAt.mono hl31 hs4) hx45 ?_
   intro b47 o48 u49 hu50 ha51
   obtain⟨a52,n53,c54,rfl,hs55,hl56⟩:=hu50
   have ha57:AtK _ b47 o48 [.slice a52 n53 c54,sv x44.To]:=ha51
   refine wl_val wn u (rv_loadS (cs:=[.slice a52 n53 c54,sv x44.To]) tf170 u hS34 ha57 u) ?_
   obtain⟨r58,hx59,h60⟩:=ob h46
   refine wl_call wn u (rt_call (vs:=[.agg #[.slice a52 n53 c54,sv x44.To]]) co144 u) ((bag_laws_toSyn F) hS34.enter0 hs55 hl56 hx59) ?_
   rintro e69 w62 ⟨a64,n65,c66,K61,B61,rfl,hS63,hs67,hl68⟩
   refine⟨_,u,?_⟩
   have hS70:SH _ _ _ _ _ [_,_]:=SH.bagJoin (SH.perm (SH.call0 hS34 hS63) (List.Perm.cons _ (List.Perm.swap _ _ _)))
   obtain⟨x71,hx72,h73⟩:=ob h60
   obtain⟨u74,hu75,hk76⟩:=RowAt.at (RowAt.mono (only_mono hS63.le fun _ h=>h) hrow37) hx72
   obtain⟨a78,n79,c80,rfl,hs81,hl82⟩:=hu75
   have hk77: ∀(j:Nat) (d:Value),[.slice a78 n79 c80,sv x71.To][j]? =some d→cs36[s26.1.toNat*tGSyn.size+j]? =some d:=hk76
   refine wl_val wn u (rv_indexRow (t:=tGSyn) Tryz.underlying31 tf159 u u hm38 hx72) ?_
   have hS83:SH _ _ _ _ _ [_,_]:=SH.front (p:=[_]) hS70
   refine wl_storeRow (t:=Ty.fix tGSyn (K61.only (B61++B30))) (v:=.agg #[.slice a64 n65 c66,sv r58.To]) (e:=r58) wn tf159 u u ⟨a64,n65,c66,u,(SliceAt.mono (only_mono (KLe.refl _) fun _ h=>List.mem_append_left _ h) hs67),hl68⟩ hS83 (show RowAt true tGSyn (K61.only (B61++B30)) _ _ from RowAt.mono (only_mono hS63.le fun _ h=>List.mem_append_right _ h) hrow37) hx72 ?_
   intro cs84 w85 hrow86 hS87
   have hm88:=hm38.trans (List.length_set (i:=s26.1.toNat) (a:=r58)).symm
   refine nb ?_
   refine qe_seq ?_
   refine wc_region ?_
   refine vm u u ?_
   refine wl_val wn u (rv_add u u) ?_
   refine va u u ?_
   refine wl_nil ?_
   obtain rfl:=oi h73
   have hS89:=hS87
   exact qe_mid' ⟨_,u,cs84,K61,(B61++B30),u,hS89,(hl31.trans hS63.le),(w64_rng _),hrow86,hm88⟩ ⟨u,u,u,trivial⟩
  ·have h43:=cond_f hb42 h40
   refine wc_exit ?_
   refine qe_then_exit ?_
   refine qe_then_exit ?_
   obtain rfl:=oi h43
   have e90:=hx41 _ u
   subst e90
   refine qe_block_eq ?_
   obtain rfl:=oi h29
   exact qe_mid' ⟨cs36,K30,B30,u,hS34,hl31,hrow37,hm38⟩ ⟨u,trivial⟩
 ·rintro _ w21 ⟨cs23,K19,B19,rfl,hS22,hl20,hrow24,hm25⟩
  refine qr ?_
  refine vm u u ?_
  refine va u u ?_
  refine nq ?_
  refine wc_ret ?_
  obtain⟨K91,hl92,hs93,hS94⟩:=SH.freeze (t:=Ty.fix tGSyn (K19.only B19)) hS22 hrow24 (row_max hm25 hmx13)
  rw [←hm25] at hs93 hS94
  obtain rfl:=oi h18
  obtain⟨Bz,hSz,hBz⟩:=SH.bagTail hS94
  exact qe_ret (vs:=[_]) Tryz.results70 ⟨u,trivial⟩ ⟨(some ⟨g8,0,none⟩),m14,m14,K91,(Bz++B19),u,SH.bagJoin hSz,SliceAt.unfix hs93 (only_mono hl92 fun _ h=>List.mem_append_right _ h) (fun hc b o e=>List.mem_append_left _ (hBz hc b o e))⟩

theorem bag_laws_toConf (F:Nat){w:World}{K:KMap}{a1:Option Addr}{n2 c3:Nat}{a5:Option Addr}{n6 c7:Nat}{p0_a:GConf}{r:GConf}(hS:SH w K [] w K [])(hs4:SliceAt tStr K a1 n2 c3 p0_a.Stops)(hs8:SliceAt tGSyn K a5 n6 c7 p0_a.Syns)(hm:M.laws_toConf F p0_a=some r):
  Calls Tryz.prog 19 #[.agg #[.slice a1 n2 c3,.slice a5 n6 c7]] w fun e w'=>∃(a_1:Option Addr) (n_2 c_3:Nat) (a_5:Option Addr) (n_6 c_7:Nat) (K':KMap) (B':List Nat),e= .returned (.agg #[.slice a_1 n_2 c_3,.slice a_5 n_6 c_7])∧SH w K [] w' K' [bag B']∧SliceAt tStr (K'.only B') a_1 n_2 c_3 r.Stops∧SliceAt tGSyn (K'.only B') a_5 n_6 c_7 r.Syns:=by
 rw [M.laws_toConf] at hm
 refine calls_in Tryz.func19 u Tryz.ntmps19 u ?_
 refine sr ?_
 refine wl_box wn u u hS ?_
 intro g9 w10 hS11
 have hS12:SH _ _ _ _ _ [obj g9 [.slice a1 n2 c3,.slice a5 n6 c7] 25]:=hS11
 refine wl_alloc wn u tf33 hS12 ?_
 intro g13 w14 hS15
 have hS16:SH _ _ _ _ _ [obj g13 [.slice none 0 0,.slice none 0 0] 33,_]:=hS15
 refine nr ?_
 refine wl_alloc wn u tf33 hS16 ?_
 intro g17 w18 hS19
 have hS20:SH _ _ _ _ _ [obj g17 [.slice none 0 0,.slice none 0 0] 33,_,_]:=hS19
 refine nr ?_
 refine wl_val wn u (rv_fieldAddr ff25_0 u) ?_
 refine wl_val wn u (rv_loadm1 tf22 u (.tail _ (.tail _ (.head _))) hS20 u) ?_
 obtain⟨r21,hx22,h23⟩:=ob hm
 refine wl_call wn u (rt_call (vs:=[.slice a1 n2 c3]) co69 u) ((bag_laws_toStringS F) hS20.enter0 hs4 hx22) ?_
 rintro e31 w25 ⟨a27,n28,c29,K24,B24,rfl,hS26,hs30⟩
 refine⟨_,u,?_⟩
 have hS32:SH _ _ _ _ _ [_,_,_,_]:=SH.call0 hS20 hS26
 refine wl_val wn u (rv_fieldAddr ff33_0 u) ?_
 have hS33:SH _ _ _ _ _ [_,_,_,_]:=SH.front (p:=[_]) hS32
 refine wl_store (cs':=[.slice a27 n28 c29,.slice none 0 0]) (v:=.slice a27 n28 c29) wn tf22 u u u (by simp [Value.cells,Value.oneCell']) hS33 u u ?_
 intro w34 hS35
 refine nr ?_
 refine wl_val wn u (rv_fieldAddr ff25_1 u) ?_
 refine wl_val wn u (rv_loadm1 tf23 u (.tail _ (.tail _ (.tail _ (.head _)))) hS35 u) ?_
 obtain⟨r36,hx37,h38⟩:=ob h23
 refine wl_call wn u (rt_call (vs:=[.slice a5 n6 c7]) co70 u) ((bag_laws_toSynS F) hS35.enter0 (SliceAt.mono hS26.le hs8) hx37) ?_
 rintro e46 w40 ⟨a42,n43,c44,K39,B39,rfl,hS41,hs45⟩
 refine⟨_,u,?_⟩
 have hS47:SH _ _ _ _ _ [_,_,_,_,_]:=SH.call0 hS35 hS41
 refine wl_val wn u (rv_fieldAddr ff33_1 u) ?_
 have hS48:SH _ _ _ _ _ [_,_,_,_,_]:=SH.front (p:=[_]) hS47
 refine wl_store (cs':=[.slice a27 n28 c29,.slice a42 n43 c44]) (v:=.slice a42 n43 c44) wn tf31 u u u (by simp [Value.cells,Value.oneCell']) hS48 u u ?_
 intro w49 hS50
 refine nr ?_
 refine wl_val wn u (rv_loadmS (ds:=[.slice a27 n28 c29,.slice a42 n43 c44]) tf33 u (.head _) hS50 u u) ?_
 have hS51:SH _ _ _ _ _ [_,_,_,_,_]:=SH.front (p:=[_,_,_]) hS50
 refine wl_store (cs':=[.slice a27 n28 c29,.slice a42 n43 c44]) (v:=.agg #[.slice a27 n28 c29,.slice a42 n43 c44]) wn tf33 u u u (by simp [Value.cells,Value.oneCell']) hS51 u u ?_
 intro w52 hS53
 refine nq ?_
 refine wc_ret ?_
 obtain rfl:=oi h38
 have hS54:SH _ _ _ _ _ [_,_,_,_,_]:=SH.front (p:=[_,_]) hS53
 have hS55:SH _ _ _ _ _ [_,_,_,_,_]:=SH.front (p:=[_,_,_]) hS54
 have hS56:SH _ _ _ _ _ [_,_]:=SH.sublist hS55 (.cons_cons _ (.cons_cons _ (.cons _ (.cons _ (.cons _ .slnil)))))
 exact qe_ret (vs:=[_]) Tryz.results19 ⟨⟨_,_,u,run_loadVar_at tf33 (cs:=[.slice a27 n28 c29,.slice a42 n43 c44]) (fun j c e=>by rw [Nat.zero_add,hS53.mem_obj (.head _)];exact e) (.inl ⟨u,u,u⟩)⟩,trivial⟩ ⟨a27,n28,c29,a42,n43,c44,K39,(B24++B39),u,SH.bagJoin hS56,(SliceAt.mono (only_mono hS41.le fun _ h=>List.mem_append_left _ h) hs30),(SliceAt.mono (only_mono (KLe.refl _) fun _ h=>List.mem_append_right _ h) hs45)⟩

theorem ok_laws_toField {q0:GField}{r:GField}(hS:SH w K [] w K [])(f:q0.Name.length≤maxLen)(i:q0.Text.length≤maxLen)(hm:M.laws_toField F q0=some r):
  Calls prog 199 #[.agg #[sv q0.Name,sv q0.Text]] w fun e w'=>∃K',e= .returned (.agg #[sv r.Name,sv r.Text])∧SH w K [] w' K' []∧r.Name.length≤maxLen∧r.Text.length≤maxLen:=by
 rw [M.laws_toField] at hm
 refine ci func199 u ntmps199 (sr (bx u hS fun g3 x k=>?_))
 have l:SH _ _ _ _ _ [obj g3 [sv q0.Name,sv q0.Text] 223]:=k
 refine al tf108 l fun m y o=>?_
 have q:SH _ _ _ _ _ [obj m [sv [],sv []] 108,_]:=o
 refine nr (al tf108 q fun s A v=>?_)
 have a:SH _ _ _ _ _ [obj s [sv [],sv []] 108,_,_]:=v
 refine nr (fl ff223_0 u tf9 m2 a u (fa ff108_0 u (ls [sv q0.Name,sv []] (sv q0.Name) tf9 a fun B b=>(nr (fl ff223_1 u tf9 m2 b u (fa ff108_1 u (ls [sv q0.Name,sv q0.Text] (sv q0.Text) tf9 b fun C c=>(nr (lv (rv_loadmS (ds:=[sv q0.Name,sv q0.Text]) tf108 u m0 c u u) ?_)))))))))
 refine lw [sv q0.Name,sv q0.Text] tf108 c.f1 fun D d=>(nq (wc_ret ?_))
 cases oi hm
 exact ez results199 tf108 d m0 ⟨K,u,d.s,f,i⟩

theorem ok_laws_toFieldS {q0:List GField}{r:(List GField)}(hS:SH w K [] w K [])(y:SliceAt tGField K A a b q0)(hm:M.laws_toFieldS F q0=some r):
  Calls prog 145 #[V3 A a b] w fun e w'=>∃a_1 n_2 c_3 K',e= .returned (V3 a_1 n_2 c_3)∧SH w K [] w' K' [tail (V3 a_1 n_2 c_3) 108 2]∧SliceAt tGField K' a_1 n_2 c_3 r:=by
 rw [M.laws_toFieldS] at hm
 refine ci func145 u ntmps145 (sr (lv (r_n u) (nr (mv u (lv (rv_len underlying99 u y) ?_)))))
 obtain⟨O,R,S⟩:=ob hm
 refine wl_make (t:=tGField) wn u underlying74 tf108 u u u R ⟨u,(by decide :([]:Str).length≤maxLen),(by decide :([]:Str).length≤maxLen)⟩ hS fun f cs9 aA hmx13 hrow11 T=>?_
 obtain⟨m14,hm15⟩: ∃m,m=O.length:=⟨_,u⟩
 rw [←hm15] at hmx13
 rw [←hm15]
 refine av u (nsr (lv (r_0 u) (nq ?_)))
 obtain⟨D,U,V⟩:=ob S
 refine wc_cutg (fun E' w'=>∃cs23 l,E'=[(3,V3 (some ⟨f,0,none⟩) m14 m14)]∧SH w K [] w' l [obj f cs23 108]∧KLe K l∧RowAt true tGField l cs23 D∧m14=D.length) ?_ ?_
 ·refine wc_block ?_
  obtain⟨aB,W,X⟩:=ob U
  refine qw (fun (c:Int×(List GField)) E' w'=>∃cs36 k,E'=[(0,V3 A a b),(3,V3 (some ⟨f,0,none⟩) m14 m14),(4,V6 c.1)]∧SH w K [] w' k [obj f cs36 108]∧KLe K k∧rng64 c.1∧RowAt true tGField k cs36 c.2∧m14=c.2.length) W ⟨cs9,K,u,T,kr,d_0,hrow11,hm15⟩ ?_
  rintro c _ aC aD Y aa ⟨cs36,k,rfl,o,q,aE,hrow37,hm38⟩
  refine wc_seq (sr (mv u (mv u (lv (rv_len underlying99 u (y.mono q)) (lv (rv_lss u u) (nq (wcc Y u (fun ab B=>?_) (fun ab B=>?_))))))))
  ·refine wc_skip (qs (wc_block (wc_region (mv u (mv u (mv u (mv u ?_)))))))
   obtain⟨G,ac,ad⟩:=ob B
   refine li underlying99 tf223 (y.mono q) ac fun ae af aF ag ah=>?_
   obtain⟨rfl,ai,aj⟩:=ag
   have ak:AtK _ ae af [sv G.Name,sv G.Text]:=ah
   refine lv (rv_loadS tf223 u o ak u) ?_
   obtain⟨s,al,am⟩:=ob ad
   refine lk co199 (ok_laws_toField F o.enter0 ai aj al) ?_
   rintro aG aH ⟨an,rfl,x,ao,ap⟩
   have aq:=(o.c0 x).t1
   obtain⟨H,C,ar⟩:=ob am
   obtain⟨aI,au,aw⟩:=RowAt.at (RowAt.mono x.le hrow37) C
   obtain⟨rfl,aJ,aK⟩:=au
   have aL: ∀(j:Nat) (d:Value),[sv H.Name,sv H.Text][j]? =some d→cs36[c.1.toNat*tGField.size+j]? =some d:=aw
   refine lv (rv_indexRow (t:=tGField) underlying74 tf108 u u hm38 C) (wl_storeRow (t:=tGField) (v:=.agg #[sv s.Name,sv s.Text]) (e:=s) wn tf108 u u ⟨u,ao,ap⟩ aq (RowAt.mono x.le hrow37) C fun cs74 aM hrow76 ax=>?_)
   have hm78:=hm38.trans (List.length_set (i:=c.1.toNat) (a:=s)).symm
   refine nb (qe_seq (wc_region (mv u (lv (rv_add u u) (av u (wl_nil ?_))))))
   cases oi ar
   exact qd ⟨_,u,cs74,an,u,ax,(q.trans x.le),(w64_rng _),hrow76,hm78⟩
  refine wc_exit (qe_then_exit (qe_then_exit ?_))
  cases oi B
  cases aa _ u
  refine qe_block_eq ?_
  cases oi X
  exact qd ⟨cs36,k,u,o,q,hrow37,hm38⟩
 rintro _ aN ⟨cs23,l,rfl,ay,aO,hrow24,hm25⟩
 refine qr (mv u (av u (nq (wc_ret ?_))))
 obtain⟨az,aP,I,J⟩:=SH.freeze ay hrow24 (row_max hm25 hmx13)
 rw [←hm25] at I J
 cases oi V
 exact ey results145 ⟨(some ⟨f,0,none⟩),m14,m14,az,u,J,I⟩

theorem bag_laws_toFieldS (F:Nat){w:World}{K:KMap}{a1:Option Addr}{n2 c3:Nat}{p0_a:List GField}{r:(List GField)}(hS:SH w K [] w K [])(hs4:SliceAt tGField K a1 n2 c3 p0_a)(hm:M.laws_toFieldS F p0_a=some r):
  Calls Tryz.prog 145 #[.slice a1 n2 c3] w fun e w'=>∃(a_1:Option Addr) (n_2 c_3:Nat) (K':KMap) (B':List Nat),e= .returned (.slice a_1 n_2 c_3)∧SH w K [] w' K' [bag B']∧SliceAt tGField (K'.only B') a_1 n_2 c_3 r:=
 (ok_laws_toFieldS F hS hs4 hm).mono fun e w' ⟨a,n,c,K',he,hS',hs'⟩=>
  let ⟨B,hB,hb⟩:=SH.bagTail hS'
  ⟨a,n,c,K',B,he,hB,SliceAt.only_flat (t:=tGField) (fun h=>h) hs' hb⟩

theorem ok_laws_toAttr {q0:GAttr}{r:GAttr}(hS:SH w K [] w K [])(f:q0.Name.length≤maxLen)(i:rng64 q0.Num)(hm:M.laws_toAttr F q0=some r):
  Calls prog 200 #[.agg #[sv q0.Name,V6 q0.Num]] w fun e w'=>∃K',e= .returned (.agg #[sv r.Name,V6 r.Num])∧SH w K [] w' K' []∧r.Name.length≤maxLen∧rng64 r.Num:=by
 rw [M.laws_toAttr] at hm
 refine ci func200 u ntmps200 (sr (bx u hS fun g3 x k=>?_))
 have l:SH _ _ _ _ _ [obj g3 [sv q0.Name,V6 q0.Num] 225]:=k
 refine al tf142 l fun m y o=>?_
 have q:SH _ _ _ _ _ [obj m [sv [],V6 0] 142,_]:=o
 refine nr (al tf142 q fun s A v=>?_)
 have a:SH _ _ _ _ _ [obj s [sv [],V6 0] 142,_,_]:=v
 refine nr (fl ff225_0 u tf9 m2 a u (fa ff142_0 u (ls [sv q0.Name,V6 0] (sv q0.Name) tf9 a fun B b=>(nr (fl ff225_1 u tf3 m2 b u (fa ff142_1 u (ls [sv q0.Name,V6 q0.Num] (V6 q0.Num) tf3 b fun C c=>(nr (lv (rv_loadmS (ds:=[sv q0.Name,V6 q0.Num]) tf142 u m0 c u u) ?_)))))))))
 refine lw [sv q0.Name,V6 q0.Num] tf142 c.f1 fun D d=>(nq (wc_ret ?_))
 cases oi hm
 exact ez results200 tf142 d m0 ⟨K,u,d.s,f,i⟩

theorem ok_laws_toAttrS {q0:List GAttr}{r:(List GAttr)}(hS:SH w K [] w K [])(y:SliceAt tGAttr K A a b q0)(hm:M.laws_toAttrS F q0=some r):
  Calls prog 146 #[V3 A a b] w fun e w'=>∃a_1 n_2 c_3 K',e= .returned (V3 a_1 n_2 c_3)∧SH w K [] w' K' [tail (V3 a_1 n_2 c_3) 142 2]∧SliceAt tGAttr K' a_1 n_2 c_3 r:=by
 rw [M.laws_toAttrS] at hm
 refine ci func146 u ntmps146 (sr (lv (r_n u) (nr (mv u (lv (rv_len underlying100 u y) ?_)))))
 obtain⟨O,R,S⟩:=ob hm
 refine wl_make (t:=tGAttr) wn u underlying75 tf142 u u u R ⟨u,(by decide :([]:Str).length≤maxLen),d_0⟩ hS fun f cs9 aA hmx13 hrow11 T=>?_
 obtain⟨m14,hm15⟩: ∃m,m=O.length:=⟨_,u⟩
 rw [←hm15] at hmx13
 rw [←hm15]
 refine av u (nsr (lv (r_0 u) (nq ?_)))
 obtain⟨D,U,V⟩:=ob S
 refine wc_cutg (fun E' w'=>∃cs23 l,E'=[(3,V3 (some ⟨f,0,none⟩) m14 m14)]∧SH w K [] w' l [obj f cs23 142]∧KLe K l∧RowAt true tGAttr l cs23 D∧m14=D.length) ?_ ?_
 ·refine wc_block ?_
  obtain⟨aB,W,X⟩:=ob U
  refine qw (fun (c:Int×(List GAttr)) E' w'=>∃cs36 k,E'=[(0,V3 A a b),(3,V3 (some ⟨f,0,none⟩) m14 m14),(4,V6 c.1)]∧SH w K [] w' k [obj f cs36 142]∧KLe K k∧rng64 c.1∧RowAt true tGAttr k cs36 c.2∧m14=c.2.length) W ⟨cs9,K,u,T,kr,d_0,hrow11,hm15⟩ ?_
  rintro c _ aC aD Y aa ⟨cs36,k,rfl,o,q,aE,hrow37,hm38⟩
  refine wc_seq (sr (mv u (mv u (lv (rv_len underlying100 u (y.mono q)) (lv (rv_lss u u) (nq (wcc Y u (fun ab B=>?_) (fun ab B=>?_))))))))
  ·refine wc_skip (qs (wc_block (wc_region (mv u (mv u (mv u (mv u ?_)))))))
   obtain⟨G,ac,ad⟩:=ob B
   refine li underlying100 tf225 (y.mono q) ac fun ae af aF ag ah=>?_
   obtain⟨rfl,ai,aj⟩:=ag
   have ak:AtK _ ae af [sv G.Name,V6 G.Num]:=ah
   refine lv (rv_loadS tf225 u o ak u) ?_
   obtain⟨s,al,am⟩:=ob ad
   refine lk co200 (ok_laws_toAttr F o.enter0 ai aj al) ?_
   rintro aG aH ⟨an,rfl,x,ao,ap⟩
   have aq:=(o.c0 x).t1
   obtain⟨H,C,ar⟩:=ob am
   obtain⟨aI,au,aw⟩:=RowAt.at (RowAt.mono x.le hrow37) C
   obtain⟨rfl,aJ,aK⟩:=au
   have aL: ∀(j:Nat) (d:Value),[sv H.Name,V6 H.Num][j]? =some d→cs36[c.1.toNat*tGAttr.size+j]? =some d:=aw
   refine lv (rv_indexRow (t:=tGAttr) underlying75 tf142 u u hm38 C) (wl_storeRow (t:=tGAttr) (v:=.agg #[sv s.Name,V6 s.Num]) (e:=s) wn tf142 u u ⟨u,ao,ap⟩ aq (RowAt.mono x.le hrow37) C fun cs74 aM hrow76 ax=>?_)
   have hm78:=hm38.trans (List.length_set (i:=c.1.toNat) (a:=s)).symm
   refine nb (qe_seq (wc_region (mv u (lv (rv_add u u) (av u (wl_nil ?_))))))
   cases oi ar
   exact qd ⟨_,u,cs74,an,u,ax,(q.trans x.le),(w64_rng _),hrow76,hm78⟩
  refine wc_exit (qe_then_exit (qe_then_exit ?_))
  cases oi B
  cases aa _ u
  refine qe_block_eq ?_
  cases oi X
  exact qd ⟨cs36,k,u,o,q,hrow37,hm38⟩
 rintro _ aN ⟨cs23,l,rfl,ay,aO,hrow24,hm25⟩
 refine qr (mv u (av u (nq (wc_ret ?_))))
 obtain⟨az,aP,I,J⟩:=SH.freeze ay hrow24 (row_max hm25 hmx13)
 rw [←hm25] at I J
 cases oi V
 exact ey results146 ⟨(some ⟨f,0,none⟩),m14,m14,az,u,J,I⟩

theorem bag_laws_toAttrS (F:Nat){w:World}{K:KMap}{a1:Option Addr}{n2 c3:Nat}{p0_a:List GAttr}{r:(List GAttr)}(hS:SH w K [] w K [])(hs4:SliceAt tGAttr K a1 n2 c3 p0_a)(hm:M.laws_toAttrS F p0_a=some r):
  Calls Tryz.prog 146 #[.slice a1 n2 c3] w fun e w'=>∃(a_1:Option Addr) (n_2 c_3:Nat) (K':KMap) (B':List Nat),e= .returned (.slice a_1 n_2 c_3)∧SH w K [] w' K' [bag B']∧SliceAt tGAttr (K'.only B') a_1 n_2 c_3 r:=
 (ok_laws_toAttrS F hS hs4 hm).mono fun e w' ⟨a,n,c,K',he,hS',hs'⟩=>
  let ⟨B,hB,hb⟩:=SH.bagTail hS'
  ⟨a,n,c,K',B,he,hB,SliceAt.only_flat (t:=tGAttr) (fun h=>h) hs' hb⟩

theorem bag_laws_toDoc (F:Nat){w:World}{K:KMap}{a2:Option Addr}{n3 c4:Nat}{a6:Option Addr}{n7 c8:Nat}{p0_a:GDoc}{r:GDoc}(hS:SH w K [] w K [])(hr1:rng64 p0_a.Id)(hs5:SliceAt tGField K a2 n3 c4 p0_a.Fields)(hs9:SliceAt tGAttr K a6 n7 c8 p0_a.Nums)(hm:M.laws_toDoc F p0_a=some r):
  Calls Tryz.prog 71 #[.agg #[.int .i64 p0_a.Id,.slice a2 n3 c4,.slice a6 n7 c8]] w fun e w'=>∃(a_2:Option Addr) (n_3 c_4:Nat) (a_6:Option Addr) (n_7 c_8:Nat) (K':KMap) (B':List Nat),e= .returned (.agg #[.int .i64 r.Id,.slice a_2 n_3 c_4,.slice a_6 n_7 c_8])∧SH w K [] w' K' [bag B']∧rng64 r.Id∧SliceAt tGField (K'.only B') a_2 n_3 c_4 r.Fields∧SliceAt tGAttr (K'.only B') a_6 n_7 c_8 r.Nums:=by
 rw [M.laws_toDoc] at hm
 refine calls_in Tryz.func71 u Tryz.ntmps71 u ?_
 refine sr ?_
 refine wl_box wn u u hS ?_
 intro g10 w11 hS12
 have hS13:SH _ _ _ _ _ [obj g10 [.int .i64 p0_a.Id,.slice a2 n3 c4,.slice a6 n7 c8] 102]:=hS12
 refine wl_alloc wn u tf77 hS13 ?_
 intro g14 w15 hS16
 have hS17:SH _ _ _ _ _ [obj g14 [.int .i64 0,.slice none 0 0,.slice none 0 0] 77,_]:=hS16
 refine nr ?_
 refine wl_alloc wn u tf77 hS17 ?_
 intro g18 w19 hS20
 have hS21:SH _ _ _ _ _ [obj g18 [.int .i64 0,.slice none 0 0,.slice none 0 0] 77,_,_]:=hS20
 refine nr ?_
 refine wl_val wn u (rv_fieldAddr ff102_0 u) ?_
 refine wl_val wn u (rv_loadm1 tf3 u (.tail _ (.tail _ (.head _))) hS21 u) ?_
 refine wl_val wn u (rv_fieldAddr ff77_0 u) ?_
 refine wl_store (cs':=[.int .i64 p0_a.Id,.slice none 0 0,.slice none 0 0]) (v:=.int .i64 p0_a.Id) wn tf3 u u u (by simp [Value.cells,Value.oneCell']) hS21 u u ?_
 intro w22 hS23
 refine nr ?_
 refine wl_val wn u (rv_fieldAddr ff102_1 u) ?_
 refine wl_val wn u (rv_loadm1 tf99 u (.tail _ (.tail _ (.head _))) hS23 u) ?_
 obtain⟨r24,hx25,h26⟩:=ob hm
 refine wl_call wn u (rt_call (vs:=[.slice a2 n3 c4]) co145 u) ((bag_laws_toFieldS F) hS23.enter0 hs5 hx25) ?_
 rintro e34 w28 ⟨a30,n31,c32,K27,B27,rfl,hS29,hs33⟩
 refine⟨_,u,?_⟩
 have hS35:SH _ _ _ _ _ [_,_,_,_]:=SH.call0 hS23 hS29
 refine wl_val wn u (rv_fieldAddr ff77_1 u) ?_
 have hS36:SH _ _ _ _ _ [_,_,_,_]:=SH.front (p:=[_]) hS35
 refine wl_store (cs':=[.int .i64 p0_a.Id,.slice a30 n31 c32,.slice none 0 0]) (v:=.slice a30 n31 c32) wn tf74 u u u (by simp [Value.cells,Value.oneCell']) hS36 u u ?_
 intro w37 hS38
 refine nr ?_
 refine wl_val wn u (rv_fieldAddr ff102_2 u) ?_
 refine wl_val wn u (rv_loadm1 tf100 u (.tail _ (.tail _ (.tail _ (.head _)))) hS38 u) ?_
 obtain⟨r39,hx40,h41⟩:=ob h26
 refine wl_call wn u (rt_call (vs:=[.slice a6 n7 c8]) co146 u) ((bag_laws_toAttrS F) hS38.enter0 (SliceAt.mono hS29.le hs9) hx40) ?_
 rintro e49 w43 ⟨a45,n46,c47,K42,B42,rfl,hS44,hs48⟩
 refine⟨_,u,?_⟩
 have hS50:SH _ _ _ _ _ [_,_,_,_,_]:=SH.call0 hS38 hS44
 refine wl_val wn u (rv_fieldAddr ff77_2 u) ?_
 have hS51:SH _ _ _ _ _ [_,_,_,_,_]:=SH.front (p:=[_]) hS50
 refine wl_store (cs':=[.int .i64 p0_a.Id,.slice a30 n31 c32,.slice a45 n46 c47]) (v:=.slice a45 n46 c47) wn tf75 u u u (by simp [Value.cells,Value.oneCell']) hS51 u u ?_
 intro w52 hS53
 refine nr ?_
 refine wl_val wn u (rv_loadmS (ds:=[.int .i64 p0_a.Id,.slice a30 n31 c32,.slice a45 n46 c47]) tf77 u (.head _) hS53 u u) ?_
 have hS54:SH _ _ _ _ _ [_,_,_,_,_]:=SH.front (p:=[_,_,_]) hS53
 refine wl_store (cs':=[.int .i64 p0_a.Id,.slice a30 n31 c32,.slice a45 n46 c47]) (v:=.agg #[.int .i64 p0_a.Id,.slice a30 n31 c32,.slice a45 n46 c47]) wn tf77 u u u (by simp [Value.cells,Value.oneCell']) hS54 u u ?_
 intro w55 hS56
 refine nq ?_
 refine wc_ret ?_
 obtain rfl:=oi h41
 have hS57:SH _ _ _ _ _ [_,_,_,_,_]:=SH.front (p:=[_,_]) hS56
 have hS58:SH _ _ _ _ _ [_,_,_,_,_]:=SH.front (p:=[_,_,_]) hS57
 have hS59:SH _ _ _ _ _ [_,_]:=SH.sublist hS58 (.cons_cons _ (.cons_cons _ (.cons _ (.cons _ (.cons _ .slnil)))))
 exact qe_ret (vs:=[_]) Tryz.results71 ⟨⟨_,_,u,run_loadVar_at tf77 (cs:=[.int .i64 p0_a.Id,.slice a30 n31 c32,.slice a45 n46 c47]) (fun j c e=>by rw [Nat.zero_add,hS56.mem_obj (.head _)];exact e) (.inl ⟨u,u,u⟩)⟩,trivial⟩ ⟨a30,n31,c32,a45,n46,c47,K42,(B27++B42),u,SH.bagJoin hS59,hr1,(SliceAt.mono (only_mono hS44.le fun _ h=>List.mem_append_left _ h) hs33),(SliceAt.mono (only_mono (KLe.refl _) fun _ h=>List.mem_append_right _ h) hs48)⟩

theorem bag_laws_toDocS (F:Nat){w:World}{K:KMap}{a1:Option Addr}{n2 c3:Nat}{p0_a:List GDoc}{r:(List GDoc)}(hS:SH w K [] w K [])(hs4:SliceAt tGDoc K a1 n2 c3 p0_a)(hm:M.laws_toDocS F p0_a=some r):
  Calls Tryz.prog 20 #[.slice a1 n2 c3] w fun e w'=>∃(a_1:Option Addr) (n_2 c_3:Nat) (K':KMap) (B':List Nat),e= .returned (.slice a_1 n_2 c_3)∧SH w K [] w' K' [bag B']∧SliceAt tGDoc (K'.only B') a_1 n_2 c_3 r:=by
 rw [M.laws_toDocS] at hm
 refine calls_in Tryz.func20 u Tryz.ntmps20 u ?_
 refine sr ?_
 refine wl_val wn u (rv_assign (v:=.slice none 0 0) u) ?_
 refine nr ?_
 refine vm u u ?_
 refine wl_val wn u (rv_len (t:=tGDoc) Tryz.underlying40 u hs4) ?_
 obtain⟨x5,hx6,h7⟩:=ob hm
 refine wl_make (t:=Ty.fix tGDoc (K.only [])) wn u Tryz.underlying43 tf77 u u u hx6 ⟨none,0,0,none,0,0,u,d_0,(SliceAt.nil _ _),(SliceAt.nil _ _)⟩ hS ?_
 intro g8 cs9 w10 hmx13 hrow11 hS12
 obtain⟨m14,hm15⟩: ∃m,m=x5.length:=⟨_,u⟩
 rw [←hm15] at hmx13
 rw [←hm15]
 refine va u u ?_
 refine nsr ?_
 refine wl_val wn u (rv_assign (v:=.int .i64 0) u) ?_
 refine nq ?_
 obtain⟨o16,h17,h18⟩:=ob h7
 refine wc_cutg (fun E' w'=>∃(cs23:List Value) (K19:KMap) (B19:List Nat),E'=[(3,.slice (some ⟨g8,0,none⟩) m14 m14)]∧SH w K [] w' K19 [obj g8 cs23 77,bag B19]∧KLe K K19∧RowAt true tGDoc (K19.only B19) cs23 o16∧m14=o16.length) ?_ ?_
 ·refine wc_block ?_
  obtain⟨r27,h28,h29⟩:=ob h17
  refine wc_while' (fun (s26:Int×(List GDoc)) E' w'=>∃(cs36:List Value) (K30:KMap) (B30:List Nat),E'=[(0,.slice a1 n2 c3),(3,.slice (some ⟨g8,0,none⟩) m14 m14),(4,.int .i64 s26.1)]∧SH w K [] w' K30 [obj g8 cs36 77,bag B30]∧KLe K K30∧rng64 s26.1∧RowAt true tGDoc (K30.only B30) cs36 s26.2∧m14=s26.2.length) h28 ⟨cs9,K,[],u,(SH.perm (SH.bag0 hS12) (List.Perm.swap _ _ _)),(KLe.refl _),d_0,hrow11,hm15⟩ ⟨u,u,u,trivial⟩ ?_
  rintro s26 _ w33 r39 h40 hx41 ⟨cs36,K30,B30,rfl,hS34,hl31,hr35,hrow37,hm38⟩
  refine wc_seq ?_
  refine sr ?_
  refine vm u u ?_
  refine vm u u ?_
  refine wl_val wn u (rv_len (t:=tGDoc) Tryz.underlying40 u (SliceAt.mono hl31 hs4)) ?_
  refine wl_val wn u (rv_lss u u) ?_
  refine nq ?_
  refine wc_cond u (fun hb42=>?_) (fun hb42=>?_)
  ·have h43:=cond_t hb42 h40
   refine wc_skip ?_
   refine qs ?_
   refine wc_block ?_
   refine wc_region ?_
   refine vm u u ?_
   refine vm u u ?_
   refine vm u u ?_
   refine vm u u ?_
   obtain⟨x44,hx45,h46⟩:=ob h43
   refine wl_indexAddr (t:=tGDoc) wn u Tryz.underlying40 tf102 u u (SliceAt.mono hl31 hs4) hx45 ?_
   intro b47 o48 u49 hu50 ha51
   obtain⟨a53,n54,c55,a57,n58,c59,rfl,hr52,hs56,hs60⟩:=hu50
   have ha61:AtK _ b47 o48 [.int .i64 x44.Id,.slice a53 n54 c55,.slice a57 n58 c59]:=ha51
   refine wl_val wn u (rv_loadS (cs:=[.int .i64 x44.Id,.slice a53 n54 c55,.slice a57 n58 c59]) tf102 u hS34 ha61 u) ?_
   obtain⟨r62,hx63,h64⟩:=ob h46
   refine wl_call wn u (rt_call (vs:=[.agg #[.int .i64 x44.Id,.slice a53 n54 c55,.slice a57 n58 c59]]) co71 u) ((bag_laws_toDoc F) hS34.enter0 hr52 hs56 hs60 hx63) ?_
   rintro e77 w66 ⟨a69,n70,c71,a73,n74,c75,K65,B65,rfl,hS67,hr68,hs72,hs76⟩
   refine⟨_,u,?_⟩
   have hS78:SH _ _ _ _ _ [_,_]:=SH.bagJoin (SH.perm (SH.call0 hS34 hS67) (List.Perm.cons _ (List.Perm.swap _ _ _)))
   obtain⟨x79,hx80,h81⟩:=ob h64
   obtain⟨u82,hu83,hk84⟩:=RowAt.at (RowAt.mono (only_mono hS67.le fun _ h=>h) hrow37) hx80
   obtain⟨a87,n88,c89,a91,n92,c93,rfl,hr86,hs90,hs94⟩:=hu83
   have hk85: ∀(j:Nat) (d:Value),[.int .i64 x79.Id,.slice a87 n88 c89,.slice a91 n92 c93][j]? =some d→cs36[s26.1.toNat*tGDoc.size+j]? =some d:=hk84
   refine wl_val wn u (rv_indexRow (t:=tGDoc) Tryz.underlying43 tf77 u u hm38 hx80) ?_
   have hS95:SH _ _ _ _ _ [_,_]:=SH.front (p:=[_]) hS78
   refine wl_storeRow (t:=Ty.fix tGDoc (K65.only (B65++B30))) (v:=.agg #[.int .i64 r62.Id,.slice a69 n70 c71,.slice a73 n74 c75]) (e:=r62) wn tf77 u u ⟨a69,n70,c71,a73,n74,c75,u,hr68,(SliceAt.mono (only_mono (KLe.refl _) fun _ h=>List.mem_append_left _ h) hs72),(SliceAt.mono (only_mono (KLe.refl _) fun _ h=>List.mem_append_left _ h) hs76)⟩ hS95 (show RowAt true tGDoc (K65.only (B65++B30)) _ _ from RowAt.mono (only_mono hS67.le fun _ h=>List.mem_append_right _ h) hrow37) hx80 ?_
   intro cs96 w97 hrow98 hS99
   have hm100:=hm38.trans (List.length_set (i:=s26.1.toNat) (a:=r62)).symm
   refine nb ?_
   refine qe_seq ?_
   refine wc_region ?_
   refine vm u u ?_
   refine wl_val wn u (rv_add u u) ?_
   refine va u u ?_
   refine wl_nil ?_
   obtain rfl:=oi h81
   have hS101:=hS99
   exact qe_mid' ⟨_,u,cs96,K65,(B65++B30),u,hS101,(hl31.trans hS67.le),(w64_rng _),hrow98,hm100⟩ ⟨u,u,u,trivial⟩
  ·have h43:=cond_f hb42 h40
   refine wc_exit ?_
   refine qe_then_exit ?_
   refine qe_then_exit ?_
   obtain rfl:=oi h43
   have e102:=hx41 _ u
   subst e102
   refine qe_block_eq ?_
   obtain rfl:=oi h29
   exact qe_mid' ⟨cs36,K30,B30,u,hS34,hl31,hrow37,hm38⟩ ⟨u,trivial⟩
 ·rintro _ w21 ⟨cs23,K19,B19,rfl,hS22,hl20,hrow24,hm25⟩
  refine qr ?_
  refine vm u u ?_
  refine va u u ?_
  refine nq ?_
  refine wc_ret ?_
  obtain⟨K103,hl104,hs105,hS106⟩:=SH.freeze (t:=Ty.fix tGDoc (K19.only B19)) hS22 hrow24 (row_max hm25 hmx13)
  rw [←hm25] at hs105 hS106
  obtain rfl:=oi h18
  obtain⟨Bz,hSz,hBz⟩:=SH.bagTail hS106
  exact qe_ret (vs:=[_]) Tryz.results20 ⟨u,trivial⟩ ⟨(some ⟨g8,0,none⟩),m14,m14,K103,(Bz++B19),u,SH.bagJoin hSz,SliceAt.unfix hs105 (only_mono hl104 fun _ h=>List.mem_append_right _ h) (fun hc b o e=>List.mem_append_left _ (hBz hc b o e))⟩

theorem ok_impl_within {q0:Int}{q1:Int}{q2:Int}{r:Bool}(hS:SH w K [] w K [])(c:rng64 q0)(d:rng64 q1)(f:rng64 q2)(hm:M.impl_within F q0 q1 q2=some r):
  Calls prog 108 #[V6 q0,V6 q1,V6 q2] w (R_b w K r):=by
 rw [M.impl_within] at hm
 refine ci func108 u ntmps108 (sr (lv (r_f u) (nr (mv u (mv u (lv (rv_geq u u) (mv u (bt hm (fun a b=>?_) (fun a b=>?_)))))))))
 ·refine lg a (rv_move u) (lg a (rv_move u) (lg a (rv_leq u u) (lv (rv_pick_t u a u) (av u (nq (wc_ret ?_))))))
  cases oi b
  exact ey results108 ⟨K,u,hS⟩
 refine lu a (lu a (lu a (lv (p_f u a u) (av u (nq (wc_ret ?_))))))
 cases oi b
 exact ey results108 ⟨K,u,hS⟩

theorem ok_impl_wordByte {q0:UInt8}{r:Bool}(hS:SH w K [] w K [])(hm:M.impl_wordByte F q0=some r):
  Calls prog 185 #[iv8 q0] w (R_b w K r):=by
 rw [M.impl_wordByte] at hm
 refine ci func185 u ntmps185 (sr (lv (r_f u) (nr (mv u (lv (rv_bge (b:=(97:UInt8)) u u) (mv u (bt hm (fun c i=>?_) (fun c i=>?_))))))))
 ·refine lg c (rv_move u) (lg c (rv_ble (b:=(122:UInt8)) u u) (lv (rv_pick_t u c u) (mv u (bt i (fun a k=>?_) (fun a k=>?_)))))
  ·refine lu a (lu a (lu a (wl_un (uu u u) u (wl_un (uu u u) u (lu a (lv (p_t u a u) (av u (nq (wc_ret ?_)))))))))
   cases oi k
   exact ey results185 ⟨K,u,hS⟩
  refine lg a (rv_move u) (lg a (rv_bge (b:=(48:UInt8)) u u) (lg a (rv_move u) (bt k (fun d l=>?_) (fun d l=>?_))))
  ·refine lg d (rv_move u) (lg d (rv_ble (b:=(57:UInt8)) u u) (lg a (rv_pick_t u d u) (lv (rv_pick_f u a u) (av u (nq (wc_ret ?_))))))
   cases oi l
   exact ey results185 ⟨K,u,hS⟩
  refine lu d (lu d (lg a (p_f u d u) (lv (rv_pick_f u a u) (av u (nq (wc_ret ?_))))))
  cases oi l
  exact ey results185 ⟨K,u,hS⟩
 refine lu c (lu c (lv (p_f u c u) (mv u (lg u (rv_move u) (lg u (rv_bge (b:=(48:UInt8)) u u) (lg u (rv_move u) (bt i (fun f m=>?_) (fun f m=>?_))))))))
 ·refine lg f (rv_move u) (lg f (rv_ble (b:=(57:UInt8)) u u) (lg u (rv_pick_t u f u) (lv (rv_pick_f u u u) (av u (nq (wc_ret ?_))))))
  cases oi m
  exact ey results185 ⟨K,u,hS⟩
 refine lu f (lu f (lg u (p_f u f u) (lv (rv_pick_f u u u) (av u (nq (wc_ret ?_))))))
 cases oi m
 exact ey results185 ⟨K,u,hS⟩

theorem ok_impl_WordOk {q0:Str}{r:Bool}(hS:SH w K [] w K [])(f:q0.length≤maxLen)(hm:M.impl_WordOk F q0=some r):
  Calls prog 123 #[sv q0] w (R_b w K r):=by
 rw [M.impl_WordOk] at hm
 refine ci func123 u ntmps123 (sr (lv (r_f u) (nsr (mv u (lv (rv_slen underlying9 u) (lv (r_m u) (nq ?_)))))))
 obtain⟨y,A,a⟩:=ob hm
 refine wc_cutg (IE y w K [] K [(0,sv q0)] []) ?_ ?_
 ·refine wc_block ?_
  obtain⟨Y,B,i⟩:=ob A
  refine qf (fun (k:Nat) (l:Unit)=>IV w K [] K [(0,sv q0),(5,V6 (q0.length:Int)),(6,V6 ((k:Nat):Int))] []) B ⟨K,u,hS,kr⟩ ?_ ?_
  ·rintro k l _ C aa hi21 D G ⟨m,rfl,b,c⟩
   refine sr (lv (rv_lss u u) (ns (wc_cond_t u (decide_eq_true (by omega)) (wc_skip (qe_seq (wc_seq (wc_block (sr (mv u (av u (nr (mv u ?_))))))))))))
   refine mv u ?_
   obtain⟨ab,H,I⟩:=ob D
   refine lv (rv_sidx underlying9 u u H) ?_
   obtain⟨ac,J,O⟩:=ob I
   refine lk co185 (ok_impl_wordByte F b.enter0 J) ?_
   rintro ad ae ⟨o,rfl,q⟩
   have s:=(b.c0 q).t0
   refine lv (rv_not u) (nq (wcc O u (fun R d=>?_) (fun R d=>?_)))
   ·refine sr (lv (r_f u) (nq (wc_ret (qe_block_ret (qe_then_ret (qe_then_ret ?_))))))
    cases oi d
    cases G _ u
    refine qe_block_ret (qe_then_ret ?_)
    cases oi i
    refine qe_then_ret ?_
    cases oi a
    exact ey results123 ⟨o,u,s⟩
   refine wc_skip (qe_block (qg (lv (rv_add_to u u (w64_succ hi21 f)) (mv u (wl_nil ?_)))))
   cases oi d
   exact qd ⟨_,u,o,u,s,(c.trans q.le)⟩
  rintro l _ C S ⟨m,rfl,b,c⟩
  subst S
  refine sr (lv (rv_lss u u) (ns (wc_cond_f u (decide_eq_false (by omega)) (wc_exit (qe_then_exit (qe_then_exit (qe_block_eq ?_)))))))
  cases oi i
  exact qd ⟨_,m,u,u,b,c⟩
 rintro _ w9 ⟨s5,K6,rfl,rfl,x,ai⟩
 have a:=elim_l a
 refine qr (mv u (lv (rv_slen underlying9 u) ?_))
 obtain⟨aj,T,U⟩:=ob a
 refine lk co108 (ok_impl_within F x.enter0 (rng_nat f) (by decide :rng64 1) (by decide :rng64 12) T) ?_
 rintro ak al ⟨V,rfl,W⟩
 have X:=(x.c0 W).t0
 refine av u (nq (wc_ret ?_))
 cases oi U
 exact ey results123 ⟨V,u,X⟩
end Go.Proofs.YtpjefkdclnmlfaaGreat
