/-
 Walks of the functions. Printed by gen.py.
-/
import Derived.Test.YtfiahfncijjliaaGreatDoorWalkA0
import Derived.Test.YtfiahfncijjliaaGreatDoorWalkA1
import Derived.Test.YtfiahfncijjliaaGreatDoorWalkA2
set_option linter.unusedVariables false
set_option linter.unusedSectionVars false
set_option maxRecDepth 100000
namespace Go.Proofs.YtfiahfncijjliaaGreatDoor
set_option maxHeartbeats 4000000
open Go Go.Fk Go.RowKit Tryz
variable (F:Nat){w:World}{K:KMap}{Z:List Nat}{g1 g2 g3:Nat}{A B C D G H I J O R S T:Option Addr}{a b c d f i k l m n o p q s v x y aa ab ac ad ae af ag:Nat}
variable [dr:Dr]

theorem ok_impl_Seg_long__ofGScorer1 {q0:GScorer}{q1:GConf}{q2:Str}{q3:Int}{r:Int}(hS:SH w K Z w K [obj g1 [V3 A a b,V3 B c d,V3 C f i,V3 D k l] 69])(af:SliceAt tStr K A a b q0.c_.Stops)(ag:SliceAt tGSyn K B c d q0.c_.Syns)(ah:SliceAt tGDoc K C f i q0.s_.Docs)(ai:SliceAt tGEntry K D k l q0.s_.Entries)(aj:SliceAt tStr K G m n q1.Stops)(ak:SliceAt tGSyn K H o p q1.Syns)(am:q2.length≤maxLen)(an:rng64 q3)(hm:M.impl_Seg_long__ofGScorer1 F q0 q1 q2 q3=some r):
  Calls prog 91 #[.pointer (some ⟨g1,2,none⟩),.agg #[V3 G m n,V3 H o p],sv q2,V6 q3] w fun e w'=>∃K',e= .returned (V6 r)∧SH w K Z w' K' [obj g1 [V3 A a b,V3 B c d,V3 C f i,V3 D k l] 69]∧rng64 r:=by
 rw [M.impl_Seg_long__ofGScorer1] at hm
 refine ci func91 u ntmps91 (sr (bx u hS fun X aI ao=>?_))
 have ap:SH _ _ _ _ _ [obj X [V3 G m n,V3 H o p] 36,_]:=ao
 refine lv (r_0 u) (nr (mv u (mv u ?_)))
 obtain⟨I,aq,ar⟩:=ob hm
 have Y:=ap.f1
 refine lk co135 (ok_impl_Seg_doc__ofGScorer1 F Y.e1 af ag ah ai an aq) ?_
 rintro aJ aK ⟨J,O,R,S,T,U,aa,rfl,V,au,aw,ax⟩
 have ay:=(Y.c1 V).t2
 refine mv u (lv (rv_extract u u) (lv (rv_extract u u) (al tf89 ay fun ab aL az=>?_)))
 have aA:SH _ _ _ _ _ [obj ab [V6 0,V3 none 0 0,V3 none 0 0] 89,_,_]:=az
 refine lw [V6 I.1.Id,V3 J O R,V3 S T U] tf89 aA fun aM ac=>(av u (nsr (mv u (lv (rv_not u) (nq (wcc ar u (fun aB W=>?_) (fun aB W=>?_)))))))
 ·refine sr (lv (r_0 u) (nq (rr ?_)))
  cases oi W
  exact ey results91 ⟨aa,u,ac.s,d_0⟩
 refine wc_skip (qs ?_)
 have q:=ac.drew
 refine wh1 (fun w'=>Holds aa w'∧HasObj X [V3 G m n,V3 H o p] w'∧HasObj ab [V6 I.1.Id,V3 J O R,V3 S T U] w') (fun w'=>True) 7 [] mixed ⟨q.hasK kr,q.hasObj m2,q.hasObj m0⟩ (fun _=>trivial) (gh (fun _ h=>rh_loadmS (ds:=[V3 G m n,V3 H o p]) tf36 u u u h.2.1) (gh (fun _ h=>rh_loadmS (ds:=[V6 I.1.Id,V3 J O R,V3 S T U]) tf89 u u u h.2.2) (gt (rv_move u) (gn ?_))))
 obtain⟨aN,aC,aD⟩:=ob W
 refine lk co136 (ok_impl_DocField F q.enter0 au aw ax am aC) ?_
 rintro aO aP ⟨aQ,rfl,s,aE⟩
 have x:=(q.c0 s).t3
 refine wl_nil (qh ⟨x.hasK s.le,x.hasObj m2,x.hasObj m0⟩ (fun _=>trivial) (gn ?_))
 obtain⟨aR,aF,aG⟩:=ob aD
 refine lk co88 (ok_impl_TermsOf F x.enter0 (aj.mono (V.le.trans s.le)) (ak.mono (V.le.trans s.le)) aE aF) ?_
 rintro aS aT ⟨aU,aV,aW,aH,rfl,ad,ae⟩
 have y:=(x.c0 ad).t4
 refine wl_nil (qh ⟨y.hasK (s.le.trans ad.le),y.hasObj m3,y.hasObj m1⟩ (fun _=>trivial) (gt (rv_len underlying133 u ae) (gt (rv_assign u) (gd' (qe_seq (wc_ret ?_))))))
 cases oi aG
 exact ey results91 ⟨aH,u,y.s,ae.rn⟩

theorem ok_impl_scorer_points {q0:GScorer}{q1:Str}{q2:Str}{q3:Int}{r:Int}(hS:SH w K Z w K [obj g1 [V3 A a b,V3 B c d,V3 C f i,V3 D k l] 69])(x:SliceAt tStr K A a b q0.c_.Stops)(y:SliceAt tGSyn K B c d q0.c_.Syns)(s:SliceAt tGDoc K C f i q0.s_.Docs)(O:SliceAt tGEntry K D k l q0.s_.Entries)(R:q1.length≤maxLen)(ab:q2.length≤maxLen)(au:rng64 q3)(hm:M.impl_scorer_points F q0 q1 q2 q3=some r):
  Calls prog 55 #[.pointer (some ⟨g1,0,none⟩),sv q1,sv q2,V6 q3] w fun e w'=>∃K',e= .returned (V6 r)∧SH w K Z w' K' [obj g1 [V3 A a b,V3 B c d,V3 C f i,V3 D k l] 69]∧rng64 r:=by
 rw [M.impl_scorer_points] at hm
 refine ci func55 u ntmps55 (sr (lv (r_0 u) (nr (mv u (mv u (mv u (mv u ?_)))))))
 obtain⟨cx,bq,br⟩:=ob hm
 refine lk co90 (ok_impl_scorer_places F hS.e1 x y s O R ab au bq) ?_
 rintro cy cz ⟨aY,aZ,ba,ac,rfl,m,S⟩
 have aw:=(hS.c1 m).t1
 refine av u (nsr (mv u (lv (rv_len underlying117 u S) (lv (rv_eql u u) (nq (wcc br u (fun bs ax=>?_) (fun bs ax=>?_)))))))
 ·refine sr (lv (r_0 u) (nq (rr ?_)))
  cases oi ax
  exact ey results55 ⟨ac,u,aw,d_0⟩
 refine wc_skip (qr (lv (r_0 u) (nsr (mv u (lv (rv_nilCheck u) (fa ff69_1 u (fl ff41_0 u tf38 m0 aw u (lv (rv_len underlying38 u (s.mono m.le)) (lv (r_m u) ?_)))))))))
 refine nq ?_
 obtain⟨bb,bu,bv⟩:=ob ax
 refine wc_cutg (IW w K Z ac [(0,pt g1),(1,sv q1),(2,sv q2),(3,V6 q3),(9,V3 aY aZ ba),(10,V6 bb)] [obj g1 [V3 A a b,V3 B c d,V3 C f i,V3 D k l] 69] (rng64 bb)) ?_ ?_
 ·refine wc_block ?_
  obtain⟨cA,bx,bz⟩:=ob bu
  refine qF (fun (bc:Nat) (ad:Int)=>IW w K Z ac [(0,pt g1),(1,sv q1),(2,sv q2),(3,V6 q3),(9,V3 aY aZ ba),(10,V6 ad),(27,V3 C f i),(28,V6 (q0.s_.Docs.length:Int)),(29,V6 ((bc:Nat):Int))] [obj g1 [V3 A a b,V3 B c d,V3 C f i,V3 D k l] 69] (rng64 ad)) bx ⟨ac,u,aw,kr,d_0⟩ ?_ ?_
  ·rintro bc ad _ bA cB hi54 bB ⟨ay,rfl,ae,G,bd⟩
   refine sr (lv (rv_lss u u) (ns (wc_cond_t u (decide_eq_true (by omega)) (wc_skip (qe_seq (wc_seq (wc_block (sr ?_))))))))
   obtain⟨az,bC,bD⟩:=ob bB
   refine li underlying38 tf89 (s.mono (m.le.trans G)) bC fun bE bF cC bG bH=>?_
   obtain⟨aA,aB,aC,aD,aE,aF,rfl,bI,cD,cE⟩:=bG
   have bJ:AtK _ bE bF [V6 az.Id,V3 aA aB aC,V3 aD aE aF]:=bH
   refine lv (rv_loadS tf89 u ae bJ u) (al tf89 ae fun be cF bK=>?_)
   have bL:SH _ _ _ _ _ [obj be [V6 0,V3 none 0 0,V3 none 0 0] 89,_]:=bK
   refine lw [V6 az.Id,V3 aA aB aC,V3 aD aE aF] tf89 bL fun cG bM=>(nq ?_)
   have af:=bM.drew
   refine wh1 (fun w'=>Holds ay w'∧HasObj g1 [V3 A a b,V3 B c d,V3 C f i,V3 D k l] w'∧HasObj be [V6 az.Id,V3 aA aB aC,V3 aD aE aF] w') (fun w'=>True) 14 [] mixed ⟨af.hasK kr,af.hasObj m1,af.hasObj m0⟩ (fun _=>trivial) (gt (rv_move u) (gt (rv_move u) (gt (rv_nilCheck u) (gt (rv_fieldAddr ff69_1 u) (gt (rv_move u) (gt (rv_nilCheck u) (gt (rv_fieldAddr ff69_0 u) (gh (fun _ h=>rh_loadmS (ds:=[V3 A a b,V3 B c d]) tf36 u u u h.2.1) (gt (rv_move u) ?_)))))))))
   refine gt (rv_fieldAddr ff89_0 u) (gh (fun _ h=>rh_loadm1 tf3 u u h.2.2) (gn ?_))
   obtain⟨cH,bN,bO⟩:=ob bD
   have bf:=af.f1
   refine lk co91 (ok_impl_Seg_long__ofGScorer1 F bf.e1 (x.mono (m.le.trans G)) (y.mono (m.le.trans G)) (s.mono (m.le.trans G)) (O.mono (m.le.trans G)) (x.mono (m.le.trans G)) (y.mono (m.le.trans G)) R bI bN) ?_
   rintro cI cJ ⟨bP,rfl,aG,cK⟩
   have ag:=(bf.c1 aG).t2
   refine wl_nil (qh ⟨ag.hasK aG.le,ag.hasObj m0,ag.hasObj m1⟩ (fun _=>trivial) (gt (rv_add u u) (gt (rv_assign u) (gd' (qe_block (qg (lv (rv_add_to u u (w64_succ hi54 (SliceAt.max (s.mono m.le)))) (mv u (wl_nil ?_)))))))))
   cases oi bO
   exact qd ⟨bP,u,ag.s,(G.trans aG.le),(w64_rng _)⟩
  rintro ad _ bA bQ ⟨ay,rfl,ae,G,bd⟩
  subst bQ
  refine sr (lv (rv_lss u u) (ns (wc_cond_f u (decide_eq_false (by omega)) (wc_exit (qe_then_exit (qe_then_exit (qe_block_eq ?_)))))))
  cases oi bz
  exact qd ⟨ay,u,ae,G,bd⟩
 rintro _ cL ⟨bg,rfl,bR,o,ah⟩
 refine qs ?_
 obtain⟨T,bS,bT⟩:=ob bv
 refine wc_cutg (fun E' w'=>∃aH aI,E'=[(0,pt g1),(13,pt aH)]∧SH w K Z w' aI [obj aH [V6 T.Up,V6 T.Down] 142,obj g1 [V3 A a b,V3 B c d,V3 C f i,V3 D k l] 69]∧KLe bg aI∧rng64 T.Up∧rng64 T.Down) ?_ ?_
 ·obtain⟨cM,bh,bU⟩:=ob bS
  obtain⟨cN,aJ,bV⟩:=ob bU
  obtain⟨J,ai,aj⟩:=ob bV
  have U:=bR.drew
  refine j_0 (fun w'=>Holds bg w'∧HasObj g1 [V3 A a b,V3 B c d,V3 C f i,V3 D k l] w') 33 [] mixed ⟨U.hasK kr,U.hasObj m0⟩ (jv 0 u (rv_move u) (jv 1 u (rv_len underlying117 u (S.mono o)) (jv 2 u (rv_move u) (jv 3 u (rv_nilCheck u) (jv 4 u (rv_fieldAddr ff69_1 u) (jv 5 u (rv_move u) (jv 6 u (rv_nilCheck u) (jv 7 u (rv_fieldAddr ff69_0 u) (jh 8 u (fun _ h=>rh_loadmS (ds:=[V3 A a b,V3 B c d]) tf36 u u u h.2) ?_)))))))))
  refine jv 9 u (rv_move u) (jv 10 u (rv_move u) (jv 12 u (rv_move u) (jv 13 u (rv_move u) (jv 14 u (rv_nilCheck u) (jv 15 u (rv_fieldAddr ff69_1 u) (jv 16 u (rv_fieldAddr ff41_0 u) (jh 17 u (fun _ h=>rh_loadm1 tf38 u u h.2) (jv 18 u (rv_len underlying38 u (s.mono (m.le.trans o))) (jv 19 u (rv_move u) ?_)))))))))
  refine jv 20 u (rv_nilCheck u) (jv 21 u (rv_fieldAddr ff69_1 u) (jv 22 u (rv_move u) (jv 23 u (rv_move u) (j2 11 30 u u ?_ ?_))))
  ·refine lk co91 (ok_impl_Seg_long__ofGScorer1 F U.e1 (x.mono (m.le.trans o)) (y.mono (m.le.trans o)) (s.mono (m.le.trans o)) (O.mono (m.le.trans o)) (x.mono (m.le.trans o)) (y.mono (m.le.trans o)) R au bh) ?_
   rintro cO cP ⟨cQ,rfl,q,aK⟩
   have V:=(U.c1 q).t1
   refine j_o ⟨V.hasK q.le,V.hasObj m0⟩ (j2 24 30 u u ?_ ?_)
   ·refine lk co76 (ok_impl_Seg_posts__ofGScorer1 F V.e1 (x.mono ((m.le.trans o).trans q.le)) (y.mono ((m.le.trans o).trans q.le)) (s.mono ((m.le.trans o).trans q.le)) (O.mono ((m.le.trans o).trans q.le)) R ab aJ) ?_
    rintro cR cS ⟨cT,cU,cV,cW,rfl,H,aL⟩
    have W:=(V.c1 H).t1
    refine j_o ⟨W.hasK (q.le.trans H.le),W.hasObj m0⟩ (jv 25 u (rv_len underlying112 u aL) (j2 26 30 u u ?_ ?_))
    ·refine lk co92 (ok_impl_TermScore F W.enter0 (S.mono o).rn aK ah (s.mono (m.le.trans o)).rn aL.rn ai) ?_
     rintro cX cY ⟨bW,rfl,X,bX,bY⟩
     have aM:=(W.c0 X).t1
     refine j_o ⟨aM.hasK ((q.le.trans H.le).trans X.le),aM.hasObj m0⟩ (jv 27 u (rv_move u) (jv 28 u (rv_extract u u) (jv 29 u (rv_extract u u) (j1 30 u (al tf142 aM fun bi cZ bZ=>?_)))))
     have aN:SH _ _ _ _ _ [obj bi [V6 0,V6 0] 142,_]:=bZ
     refine j_o ⟨aN.hasK ((q.le.trans H.le).trans X.le),aN.hasObj m1⟩ (j1 31 u (lw [V6 J.1.Up,V6 J.1.Down] tf142 aN fun da aO=>(j_o ⟨aO.hasK ((q.le.trans H.le).trans X.le),aO.hasObj m1⟩ (jv 32 u (rv_assign u) (jd ?_)))))
     cases oi aj
     exact qd ⟨bi,bW,u,aO,((q.le.trans H.le).trans X.le),bX,bY⟩
    refine al tf142 W fun bj db ca=>?_
    have ak:SH _ _ _ _ _ [obj bj [V6 0,V6 0] 142,_]:=ca
    refine j_o ⟨ak.hasK (q.le.trans H.le),ak.hasObj m1⟩ (j1 26 u (lk co92 (ok_impl_TermScore F ak.enter0 (S.mono o).rn aK ah (s.mono (m.le.trans o)).rn aL.rn ai) ?_))
    rintro dc dd ⟨cb,rfl,am,cc,cd⟩
    have aP:=(ak.c0 am).t2
    refine j_o ⟨aP.hasK ((q.le.trans H.le).trans am.le),aP.hasObj m1⟩ (jv 27 u (rv_move u) (jv 28 u (rv_extract u u) (jv 29 u (rv_extract u u) (j1 31 u (lw [V6 J.1.Up,V6 J.1.Down] tf142 aP fun de aQ=>(j_o ⟨aQ.hasK ((q.le.trans H.le).trans am.le),aQ.hasObj m1⟩ (jv 32 u (rv_assign u) (jd ?_))))))))
    cases oi aj
    exact qd ⟨bj,cb,u,aQ,((q.le.trans H.le).trans am.le),cc,cd⟩
   refine al tf142 V fun bk df ce=>?_
   have aR:SH _ _ _ _ _ [obj bk [V6 0,V6 0] 142,_]:=ce
   refine j_o ⟨aR.hasK q.le,aR.hasObj m1⟩ (j1 24 u ?_)
   have bl:=aR.f1
   refine lk co76 (ok_impl_Seg_posts__ofGScorer1 F bl.e1 (x.mono ((m.le.trans o).trans q.le)) (y.mono ((m.le.trans o).trans q.le)) (s.mono ((m.le.trans o).trans q.le)) (O.mono ((m.le.trans o).trans q.le)) R ab aJ) ?_
   rintro dg dh ⟨di,dj,dk,dl,rfl,Y,bm⟩
   have an:=(bl.c1 Y).t2
   refine j_o ⟨an.hasK (q.le.trans Y.le),an.hasObj m0⟩ (jv 25 u (rv_len underlying112 u bm) (j1 26 u (lk co92 (ok_impl_TermScore F an.enter0 (S.mono o).rn aK ah (s.mono (m.le.trans o)).rn bm.rn ai) ?_)))
   rintro dm dn ⟨cf,rfl,ao,cg,ch⟩
   have aS:=(an.c0 ao).t2
   refine j_o ⟨aS.hasK ((q.le.trans Y.le).trans ao.le),aS.hasObj m0⟩ (jv 27 u (rv_move u) (jv 28 u (rv_extract u u) (jv 29 u (rv_extract u u) (j1 31 u (lw [V6 J.1.Up,V6 J.1.Down] tf142 aS.f1 fun dp aT=>(j_o ⟨aT.hasK ((q.le.trans Y.le).trans ao.le),aT.hasObj m1⟩ (jv 32 u (rv_assign u) (jd ?_))))))))
   cases oi aj
   exact qd ⟨bk,cf,u,aT,((q.le.trans Y.le).trans ao.le),cg,ch⟩
  refine al tf142 U fun bn dq cj=>?_
  have aU:SH _ _ _ _ _ [obj bn [V6 0,V6 0] 142,_]:=cj
  refine j_o ⟨aU.hasK kr,aU.hasObj m1⟩ (j1 11 u ?_)
  have bo:=aU.f1
  refine lk co91 (ok_impl_Seg_long__ofGScorer1 F bo.e1 (x.mono (m.le.trans o)) (y.mono (m.le.trans o)) (s.mono (m.le.trans o)) (O.mono (m.le.trans o)) (x.mono (m.le.trans o)) (y.mono (m.le.trans o)) R au bh) ?_
  rintro dr dt ⟨du,rfl,I,ck⟩
  have ap:=(bo.c1 I).t2
  refine j_o ⟨ap.hasK I.le,ap.hasObj m0⟩ (j1 24 u (lk co76 (ok_impl_Seg_posts__ofGScorer1 F ap.e1 (x.mono ((m.le.trans o).trans I.le)) (y.mono ((m.le.trans o).trans I.le)) (s.mono ((m.le.trans o).trans I.le)) (O.mono ((m.le.trans o).trans I.le)) R ab aJ) ?_))
  rintro dv dw ⟨dx,dy,dz,dA,rfl,aa,bp⟩
  have aq:=(ap.c1 aa).t2
  refine j_o ⟨aq.hasK (I.le.trans aa.le),aq.hasObj m0⟩ (jv 25 u (rv_len underlying112 u bp) (j1 26 u (lk co92 (ok_impl_TermScore F aq.enter0 (S.mono o).rn ck ah (s.mono (m.le.trans o)).rn bp.rn ai) ?_)))
  rintro dB dC ⟨cl,rfl,ar,cm,cn⟩
  have aV:=(aq.c0 ar).t2
  refine j_o ⟨aV.hasK ((I.le.trans aa.le).trans ar.le),aV.hasObj m0⟩ (jv 27 u (rv_move u) (jv 28 u (rv_extract u u) (jv 29 u (rv_extract u u) (j1 31 u (lw [V6 J.1.Up,V6 J.1.Down] tf142 aV.f1 fun dD aW=>(j_o ⟨aW.hasK ((I.le.trans aa.le).trans ar.le),aW.hasObj m1⟩ (jv 32 u (rv_assign u) (jd ?_))))))))
  cases oi aj
  exact qd ⟨bn,cl,u,aW,((I.le.trans aa.le).trans ar.le),cm,cn⟩
 rintro _ dE ⟨aH,aI,rfl,aX,dF,cp,cq⟩
 refine qr (lv (rv_loadmS (ds:=[V6 T.Up,V6 T.Down]) tf142 u m0 aX u u) ?_)
 obtain⟨dG,cr,cs⟩:=ob bT
 refine lk co93 (ok_impl_RatFloor F aX.enter0 cp cq (by decide :rng64 1000) cr) ?_
 rintro dH dI ⟨ct,rfl,cu,cv⟩
 have cw:=(aX.c0 cu).t2
 refine av u (nq (wc_ret ?_))
 cases oi cs
 exact ey results55 ⟨ct,u,cw.s,cv⟩
end Go.Proofs.YtfiahfncijjliaaGreatDoor
