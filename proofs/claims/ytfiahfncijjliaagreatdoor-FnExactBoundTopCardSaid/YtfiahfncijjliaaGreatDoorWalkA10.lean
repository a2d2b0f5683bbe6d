/-
 Walks of the functions. Printed by gen.py.
-/
import Derived.Test.YtfiahfncijjliaaGreatDoorWalkA1
import Derived.Test.YtfiahfncijjliaaGreatDoorWalkA2
import Derived.Test.YtfiahfncijjliaaGreatDoorWalkA3
import Derived.Test.YtfiahfncijjliaaGreatDoorWalkA5
import Derived.Test.YtfiahfncijjliaaGreatDoorWalkA7
import Derived.Test.YtfiahfncijjliaaGreatDoorWalkA8
import Derived.Test.YtfiahfncijjliaaGreatDoorWalkA9
set_option linter.unusedVariables false
set_option linter.unusedSectionVars false
set_option maxRecDepth 100000
namespace Go.Proofs.YtfiahfncijjliaaGreatDoor
set_option maxHeartbeats 4000000
open Go Go.Fk Go.RowKit Tryz
variable (F:Nat){w:World}{K:KMap}{Z:List Nat}{g1 g2 g3:Nat}{A B C D G H I J O R S T:Option Addr}{a b c d f i k l m n o p q s v x y aa ab ac ad ae af ag:Nat}
variable [dr:Dr]

theorem ok_laws_FnExactBoundTop {q0:GConf}{q1:GSeg}{q2:Str}{q3:List Str}{q4:Int}{r:Bool}(hS:SH w K [] w K [])(aT:SliceAt tStr K A a b q0.Stops)(aU:SliceAt tGSyn K B c d q0.Syns)(aV:SliceAt tGDoc K C f i q1.Docs)(aW:SliceAt tGEntry K D k l q1.Entries)(bq:q2.length≤maxLen)(aX:SliceAt tStr K G m n q3)(br:rng64 q4)(hm:M.laws_FnExactBoundTop F q0 q1 q2 q3 q4=some r):
  Calls prog 4 #[.agg #[V3 A a b,V3 B c d],.agg #[V3 C f i,V3 D k l],sv q2,V3 G m n,V6 q4] w (R_b w K r):=by
 rw [M.laws_FnExactBoundTop] at hm
 refine ci func4 u ntmps4 (sr (bx u hS fun am gJ dg=>?_))
 have dh:SH _ _ _ _ _ [obj am [V3 A a b,V3 B c d] 25]:=dg
 refine bx u dh fun an gK di=>?_
 have bl:SH _ _ _ _ _ [obj an [V3 C f i,V3 D k l] 29,_]:=di
 refine lv (r_f u) (nsr (mv u (lv (rv_slen underlying9 u) (lv (rv_gtr u u) (nq (wc_cond u (fun bs=>?_) (fun bs=>?_)))))))
 ·have bu:=cond_t bs hm
  refine sr (lv (r_t u) (nq (rr ?_)))
  cases oi bu
  exact ey results4 ⟨K,u,bl.s⟩
 have bu:=cond_f bs hm
 refine wc_skip (qr (lv (rv_assign (v:=V6 1048576) u) (nr (lv (rv_loadmS (ds:=[V3 A a b,V3 B c d]) tf25 u m1 bl u u) (mv u ?_)))))
 obtain⟨gL,dj,dk⟩:=ob bu
 refine lk co5 (ok_laws_szConf F bl.enter0 aT aU (by decide :rng64 1048576) dj) ?_
 rintro gM gN ⟨dl,rfl,R,dm⟩
 have bm:=(bl.c0 R).t2
 refine av u (nsr (mv u (lv (rv_lss u u) (nq (wcc dk u (fun dn bv=>?_) (fun dn bv=>?_))))))
 ·refine sr (lv (r_t u) (nq (rr ?_)))
  cases oi bv
  exact ey results4 ⟨dl,u,bm.s⟩
 refine wc_skip (qr (lv (rv_loadmS (ds:=[V3 C f i,V3 D k l]) tf29 u m0 bm u u) (mv u ?_)))
 obtain⟨gO,dp,dq⟩:=ob bv
 refine lk co6 (ok_laws_szSeg F bm.enter0 (aV.mono R.le) (aW.mono R.le) dm dp) ?_
 rintro gP gQ ⟨dr,rfl,V,dt⟩
 have bz:=(bm.c0 V).t2
 refine av u (nsr (mv u (lv (rv_lss u u) (nq (wcc dq u (fun du bA=>?_) (fun du bA=>?_))))))
 ·refine sr (lv (r_t u) (nq (rr ?_)))
  cases oi bA
  exact ey results4 ⟨dr,u,bz.s⟩
 refine wc_skip (qr (mv u (mv u ?_)))
 obtain⟨gR,dv,dw⟩:=ob bA
 refine lk co18 (ok_laws_szStringS F bz.enter0 (aX.mono (R.le.trans V.le)) dt dv) ?_
 rintro gS gT ⟨ce,rfl,Y,gU⟩
 have cf:=(bz.c0 Y).t2
 refine av u (nsr (mv u (lv (rv_lss u u) (nq (wcc dw u (fun dx bB=>?_) (fun dx bB=>?_))))))
 ·refine sr (lv (r_t u) (nq (rr ?_)))
  cases oi bB
  exact ey results4 ⟨ce,u,cf.s⟩
 refine wc_skip (qs (wc_held (fun w'=>Holds ce w'∧HasObj am [V3 A a b,V3 B c d] w'∧HasObj an [V3 C f i,V3 D k l] w') (fun w'=>True) 14 [] mixed ?_))
 have ad:=cf.drew
 refine wg_val (i:=0) (listed':=L_ 14 0) (HasObj am [V3 A a b,V3 B c d]) u (by kernel_rfl) (pk_then pk_body) (by kernel_rfl) u (by kernel_rfl) (by kernel_rfl) u (.inl fun _ h=>h.2.1) ⟨⟨ad.hasK kr,ad.hasObj m1,ad.hasObj m0⟩,(fun _=>trivial),by decide⟩ wn u (fun _ h=>rh_loadmS (ds:=[V3 A a b,V3 B c d]) tf25 u u u h) (wg_val (i:=2) (listed':=#[true,false,true,false,false,false,false,false,false,false,false,false,false,false]) (HasObj an [V3 C f i,V3 D k l]) u (by kernel_rfl) (pk_then pk_body) (by kernel_rfl) u (by kernel_rfl) (by kernel_rfl) u (.inl fun _ h=>h.2.2) ⟨⟨ad.hasK kr,ad.hasObj m1,ad.hasObj m0⟩,(fun _=>trivial),by decide⟩ wn u (fun _ h=>rh_loadmS (ds:=[V3 C f i,V3 D k l]) tf29 u u u h) (wg_val (i:=4) (listed':=#[true,false,true,false,true,false,false,false,false,false,false,false,false,false]) (fun _=>True) u (by kernel_rfl) (pk_then pk_body) (by kernel_rfl) u (by kernel_rfl) (by kernel_rfl) u (.inl fun _ _=>trivial) ⟨⟨ad.hasK kr,ad.hasObj m1,ad.hasObj m0⟩,(fun _=>trivial),by decide⟩ wn u (fun _ _=>(rv_move u)) ?_))
 refine wg_val (i:=5) (listed':=#[true,false,true,false,true,true,false,false,false,false,false,false,false,false]) (fun _=>True) u (by kernel_rfl) (pk_then pk_body) (by kernel_rfl) u (by kernel_rfl) (by kernel_rfl) u (.inl fun _ _=>trivial) ⟨⟨ad.hasK kr,ad.hasObj m1,ad.hasObj m0⟩,(fun _=>trivial),by decide⟩ wn u (fun _ _=>(rv_move u)) (wg_val (i:=7) (listed':=#[true,false,true,false,true,true,false,true,false,false,false,false,false,false]) (fun _=>True) u (by kernel_rfl) (pk_then pk_body) (by kernel_rfl) u (by kernel_rfl) (by kernel_rfl) u (.inl fun _ _=>trivial) ⟨⟨ad.hasK kr,ad.hasObj m1,ad.hasObj m0⟩,(fun _=>trivial),by decide⟩ wn u (fun _ _=>(rv_move u)) (wg_one (i:=1) (by kernel_rfl) u ?_))
 obtain⟨gV,dy,dz⟩:=ob bB
 refine lk co8 ((bag_laws_toConf F) ad.enter0 (aT.mono ((R.le.trans V.le).trans Y.le)) (aU.mono ((R.le.trans V.le).trans Y.le)) dy) ?_
 rintro gW gX ⟨gY,gZ,hc,hd,he,hf,hg,B78,rfl,H,dA,dB⟩
 have dC:=dA.mono only_le
 have dD:=dB.mono only_le
 have aY:=(ad.c0 H).t3
 refine wl_nil (qe_held (listed':=#[true,true,true,false,true,true,false,true,false,false,false,false,false,false]) u ⟨⟨aY.hasK H.le,aY.hasObj m2,aY.hasObj m1⟩,(fun _=>trivial),by decide⟩ (wg_one (i:=3) (by kernel_rfl) u ?_))
 obtain⟨hh,dE,dF⟩:=ob dz
 refine lk co9 ((bag_laws_toSeg F) aY.enter0 (SliceAt.mono (((R.le.trans V.le).trans Y.le).trans H.le) aV) (SliceAt.mono (((R.le.trans V.le).trans Y.le).trans H.le) aW) dE) ?_
 rintro hi hj ⟨hk,hn,ho,hp,hq,hr,ht,B97,rfl,J,dG,dH⟩
 have dI:=dG.mono only_le
 have dJ:=dH.mono only_le
 have aZ:=(aY.c0 J).t4
 refine wl_nil (qe_held (listed':=#[true,true,true,true,true,true,false,true,false,false,false,false,false,false]) u ⟨⟨aZ.hasK (H.le.trans J.le),aZ.hasObj m3,aZ.hasObj m2⟩,(fun _=>trivial),by decide⟩ (wg_one (i:=6) (by kernel_rfl) u ?_))
 obtain⟨hu,dK,dL⟩:=ob dF
 refine lk co20 ((bag_laws_toStringS F) aZ.enter0 (SliceAt.mono ((((R.le.trans V.le).trans Y.le).trans H.le).trans J.le) aX) dK) ?_
 rintro hv hw ⟨hx,hy,hz,hA,B116,rfl,O,dM⟩
 have dN:=dM.mono only_le
 have ba:=(aZ.c0 O).t5
 refine wl_nil (qe_held (listed':=L_ 14 7) u ⟨⟨ba.hasK ((H.le.trans J.le).trans O.le),ba.hasObj m4,ba.hasObj m3⟩,(fun _=>trivial),by decide⟩ (wg_one (i:=8) (by kernel_rfl) u ?_))
 obtain⟨cg,dO,dP⟩:=ob dL
 refine lk co19 (ok_spec_BoundTop F ba.enter0 (dC.mono (J.le.trans O.le)) (dD.mono (J.le.trans O.le)) (dI.mono O.le) (dJ.mono O.le) bq dN br dO) ?_
 rintro hB hC ⟨bC,bD,bE,hD,rfl,W,bF,hE⟩
 have I:=(ba.c0 W).t5
 refine wl_nil (qe_held (listed':=L_ 14 8) u ⟨⟨I.hasK (((H.le.trans J.le).trans O.le).trans W.le),I.hasObj m4,I.hasObj m3⟩,(fun _=>trivial),by decide⟩ (wg_val (i:=9) (listed':=L_ 14 9) (fun _=>True) u (by kernel_rfl) (pk_then pk_body) (by kernel_rfl) u (by kernel_rfl) (by kernel_rfl) u (.inl fun _ _=>trivial) ⟨⟨I.hasK (((H.le.trans J.le).trans O.le).trans W.le),I.hasObj m4,I.hasObj m3⟩,(fun _=>trivial),by decide⟩ wn u (fun _ _=>(rv_move u)) (wg_val (i:=10) (listed':=L_ 14 10) (fun _=>True) u (by kernel_rfl) (pk_then pk_body) (by kernel_rfl) u (by kernel_rfl) (by kernel_rfl) u (.inl fun _ _=>trivial) ⟨⟨I.hasK (((H.le.trans J.le).trans O.le).trans W.le),I.hasObj m4,I.hasObj m3⟩,(fun _=>trivial),by decide⟩ wn u (fun _ _=>(rv_extract u u)) ?_)))
 refine wg_val (i:=11) (listed':=L_ 14 11) (fun _=>True) u (by kernel_rfl) (pk_then pk_body) (by kernel_rfl) u (by kernel_rfl) (by kernel_rfl) u (.inl fun _ _=>trivial) ⟨⟨I.hasK (((H.le.trans J.le).trans O.le).trans W.le),I.hasObj m4,I.hasObj m3⟩,(fun _=>trivial),by decide⟩ wn u (fun _ _=>(rv_extract u u)) (wg_val (i:=12) (listed':=L_ 14 12) (fun _=>True) u (by kernel_rfl) (pk_then pk_body) (by kernel_rfl) u (by kernel_rfl) (by kernel_rfl) u (.inl fun _ _=>trivial) ⟨⟨I.hasK (((H.le.trans J.le).trans O.le).trans W.le),I.hasObj m4,I.hasObj m3⟩,(fun _=>trivial),by decide⟩ wn u (fun _ _=>(rv_assign u)) (wg_val (i:=13) (listed':=L_ 14 13) (fun _=>True) u (by kernel_rfl) (pk_then pk_body) (by kernel_rfl) u (by kernel_rfl) (by kernel_rfl) u (.inl fun _ _=>trivial) ⟨⟨I.hasK (((H.le.trans J.le).trans O.le).trans W.le),I.hasObj m4,I.hasObj m3⟩,(fun _=>trivial),by decide⟩ wn u (fun _ _=>(rv_assign u)) (wg_done (by kernel_rfl) (qr ?_))))
 refine lv (rv_loadmS (ds:=[V3 A a b,V3 B c d]) tf25 u m4 I u u) ?_
 obtain⟨hF,dQ,dR⟩:=ob dP
 refine lk co8 ((bag_laws_toConf F) I.enter0 (SliceAt.mono ((((((R.le.trans V.le).trans Y.le).trans H.le).trans J.le).trans O.le).trans W.le) aT) (SliceAt.mono ((((((R.le.trans V.le).trans Y.le).trans H.le).trans J.le).trans O.le).trans W.le) aU) dQ) ?_
 rintro hG hH ⟨aF,aG,aH,aI,aJ,aK,hI,B143,rfl,q,ch,cj⟩
 have ck:=ch.mono only_le
 have cl:=cj.mono only_le
 have dS:=(I.c0 q).t6
 refine al tf36 dS fun bn hJ dT=>?_
 have dU:SH _ _ _ _ _ [obj bn [V3 none 0 0,V3 none 0 0] 36,_,_,_,_,_,_]:=dT
 refine lw [V3 aF aG aH,V3 aI aJ aK] tf36 dU fun hK ah=>(nr (lv (rv_loadmS (ds:=[V3 C f i,V3 D k l]) tf29 u m5 ah u u) ?_))
 obtain⟨hL,dV,dW⟩:=ob dR
 refine lk co9 ((bag_laws_toSeg F) ah.enter0 (SliceAt.mono (((((((R.le.trans V.le).trans Y.le).trans H.le).trans J.le).trans O.le).trans W.le).trans q.le) aV) (SliceAt.mono (((((((R.le.trans V.le).trans Y.le).trans H.le).trans J.le).trans O.le).trans W.le).trans q.le) aW) dV) ?_
 rintro hM hN ⟨aL,aM,aN,aO,aP,aQ,hO,B168,rfl,s,cm,cn⟩
 have cp:=cm.mono only_le
 have cq:=cn.mono only_le
 have dX:=(ah.c0 s).t8
 refine al tf41 dX fun bo hP dY=>?_
 have dZ:SH _ _ _ _ _ [obj bo [V3 none 0 0,V3 none 0 0] 41,_,_,_,_,_,_,_,_]:=dY
 refine lw [V3 aL aM aN,V3 aO aP aQ] tf41 dZ fun hQ ao=>(nr (mv u ?_))
 obtain⟨hR,ea,eb⟩:=ob dW
 refine lk co20 ((bag_laws_toStringS F) ao.enter0 (SliceAt.mono ((((((((R.le.trans V.le).trans Y.le).trans H.le).trans J.le).trans O.le).trans W.le).trans q.le).trans s.le) aX) ea) ?_
 rintro hT hU ⟨ec,ed,ee,hV,B193,rfl,x,cr⟩
 have cs:=cr.mono only_le
 have ai:=(ao.c0 x).t10
 refine av u (nr (lv (rv_loadmS (ds:=[V3 aF aG aH,V3 aI aJ aK]) tf36 u m3 ai u u) (lv (rv_loadmS (ds:=[V3 aL aM aN,V3 aO aP aQ]) tf41 u m1 ai u u) (mv u (mv u (mv u ?_))))))
 obtain⟨ef,eg,eh⟩:=ob eb
 refine lk co21 (ok_impl_BoundTop F ai.enter0 (ck.mono (s.le.trans x.le)) (cl.mono (s.le.trans x.le)) (cp.mono x.le) (cq.mono x.le) bq cs br eg) ?_
 rintro hW hX ⟨az,aA,aB,ei,rfl,y,ct,hY⟩
 have cu:=(ai.c0 y).t11
 refine mv u (lv (rv_extract u u) (lv (rv_extract u u) (av u (av u (ns (wc_seq ?_))))))
 obtain⟨ej,ek,el⟩:=ob eh
 refine wc_cutg (IV w K [] ei [(2,sv q2),(3,V3 G m n),(4,V6 q4),(5,pt am),(6,pt an),(12,V3 bC bD bE),(13,V6 cg.2),(14,pt bn),(15,pt bo),(16,V3 ec ed ee),(17,V3 az aA aB),(18,V6 ef.2),(77,.bool ej)] [obj am [V3 A a b,V3 B c d] 25,obj an [V3 C f i,V3 D k l] 29,obj bn [V3 aF aG aH,V3 aI aJ aK] 36,obj bo [V3 aL aM aN,V3 aO aP aQ] 41,tail (V3 az aA aB) 92 2,bag B193,bag B168,bag B143,bag B116,bag B97,bag B78]) ?_ ?_
 ·refine wc_region (mv u (mv u ?_))
  obtain⟨hZ,em,en⟩:=ob ek
  refine lk co22 (ok_laws_eqHitS F cu.enter0 ct (SliceAt.mono (((q.le.trans s.le).trans x.le).trans y.le) bF) em) ?_
  rintro ia ib ⟨cv,rfl,bG⟩
  have cw:=(cu.c0 bG).t11
  refine lv (rv_not u) (mv u (bt en (fun ap bH=>?_) (fun ap bH=>?_)))
  ·refine lu ap (lu ap (lu ap (lv (p_t u ap u) (wl_nil ?_))))
   cases oi bH
   have eo:SH _ _ _ _ _ [_,_,_,_,_,_,_,_,_,_,_]:=SH.front (p:=[_,_,_,_,_,_,_,_,_,_]) cw.f8.f8.f8.f8.f7.f6.f6.f7.f8.f9
   exact qd ⟨cv,u,eo,bG.le⟩
  refine lg ap (rv_move u) (lg ap (rv_move u) (lg ap (rv_neq u u) (lv (rv_pick_f u ap u) (wl_nil ?_))))
  cases oi bH
  have ep:SH _ _ _ _ _ [_,_,_,_,_,_,_,_,_,_,_]:=SH.front (p:=[_,_,_,_,_,_,_,_,_,_]) cw.f8.f8.f8.f8.f7.f6.f6.f7.f8.f9
  exact qd ⟨cv,u,ep,bG.le⟩
 rintro _ ic ⟨cx,rfl,cy,T⟩
 refine qe_seq (wcc el u (fun eq bI=>?_) (fun eq bI=>?_))
 ·refine sr (lv (r_f u) (nq (rr ?_)))
  cases oi bI
  exact ey results4 ⟨cx,u,cy.s⟩
 refine wc_skip (qs (wc_seq ?_))
 have bb:=cy.drew
 refine wh1 (fun w'=>Holds cx w'∧HasObj bn [V3 aF aG aH,V3 aI aJ aK] w'∧HasObj am [V3 A a b,V3 B c d] w') (fun w'=>True) 5 [] mixed ⟨bb.hasK kr,bb.hasObj m2,bb.hasObj m0⟩ (fun _=>trivial) (gh (fun _ h=>rh_loadmS (ds:=[V3 aF aG aH,V3 aI aJ aK]) tf36 u u u h.2.1) (gh (fun _ h=>rh_loadmS (ds:=[V3 A a b,V3 B c d]) tf25 u u u h.2.2) (gn ?_)))
 obtain⟨ie,es,et⟩:=ob bI
 refine lk co8 ((bag_laws_toConf F) bb.enter0 (SliceAt.mono (((((((((((R.le.trans V.le).trans Y.le).trans H.le).trans J.le).trans O.le).trans W.le).trans q.le).trans s.le).trans x.le).trans y.le).trans T) aT) (SliceAt.mono (((((((((((R.le.trans V.le).trans Y.le).trans H.le).trans J.le).trans O.le).trans W.le).trans q.le).trans s.le).trans x.le).trans y.le).trans T) aU) es) ?_
 rintro ig ih ⟨ii,ij,ik,il,im,io,ip,B264,rfl,S,cz,cA⟩
 have eu:=cz.mono only_le
 have ev:=cA.mono only_le
 have bc:=(bb.c0 S).t12
 refine wl_nil (qh ⟨bc.hasK S.le,bc.hasObj m3,bc.hasObj m1⟩ (fun _=>trivial) (gn ?_))
 obtain⟨iq,ew,ex⟩:=ob et
 refine lk co12 (ok_laws_eqConf F bc.enter0 (SliceAt.mono ((((s.le.trans x.le).trans y.le).trans T).trans S.le) ck) (SliceAt.mono ((((s.le.trans x.le).trans y.le).trans T).trans S.le) cl) eu ev ew) ?_
 rintro ir it ⟨cB,rfl,U⟩
 have bd:=(bc.c0 U).t12
 refine wl_nil (qh ⟨bd.hasK (S.le.trans U.le),bd.hasObj m3,bd.hasObj m1⟩ (fun _=>trivial) (gt (rv_not u) (gd' (qe_seq (wcc ex u (fun eA bJ=>?_) (fun eA bJ=>?_))))))
 ·refine sr (lv (r_f u) (nq (rr ?_)))
  cases oi bJ
  exact ey results4 ⟨cB,u,bd.s⟩
 refine wc_skip (qs (wc_seq ?_))
 have be:=bd.drew
 refine wh1 (fun w'=>Holds cB w'∧HasObj bo [V3 aL aM aN,V3 aO aP aQ] w'∧HasObj an [V3 C f i,V3 D k l] w') (fun w'=>True) 5 [] mixed ⟨be.hasK kr,be.hasObj m4,be.hasObj m2⟩ (fun _=>trivial) (gh (fun _ h=>rh_loadmS (ds:=[V3 aL aM aN,V3 aO aP aQ]) tf41 u u u h.2.1) (gh (fun _ h=>rh_loadmS (ds:=[V3 C f i,V3 D k l]) tf29 u u u h.2.2) (gn ?_)))
 obtain⟨iu,eB,eC⟩:=ob bJ
 refine lk co9 ((bag_laws_toSeg F) be.enter0 (SliceAt.mono (((((((((((((R.le.trans V.le).trans Y.le).trans H.le).trans J.le).trans O.le).trans W.le).trans q.le).trans s.le).trans x.le).trans y.le).trans T).trans S.le).trans U.le) aV) (SliceAt.mono (((((((((((((R.le.trans V.le).trans Y.le).trans H.le).trans J.le).trans O.le).trans W.le).trans q.le).trans s.le).trans x.le).trans y.le).trans T).trans S.le).trans U.le) aW) eB) ?_
 rintro iv iw ⟨ix,iy,iz,iA,iB,iC,iD,B296,rfl,X,cC,cD⟩
 have eD:=cC.mono only_le
 have eE:=cD.mono only_le
 have bf:SH _ _ _ _ _ [_,_,_,_,_,_,_,_,_,_,_,_,_]:=SH.call0 be X
 refine wl_nil (qh ⟨bf.hasK X.le,bf.hasObj m5,bf.hasObj m3⟩ (fun _=>trivial) (gn ?_))
 obtain⟨iE,eF,eG⟩:=ob eC
 refine lk co13 (ok_laws_eqSeg F bf.enter0 (SliceAt.mono (((((x.le.trans y.le).trans T).trans S.le).trans U.le).trans X.le) cp) (SliceAt.mono (((((x.le.trans y.le).trans T).trans S.le).trans U.le).trans X.le) cq) eD eE eF) ?_
 rintro iF iG ⟨eH,rfl,aa⟩
 have aR:SH _ _ _ _ _ [_,_,_,_,_,_,_,_,_,_,_,_,_]:=SH.call0 bf aa
 refine wl_nil (qh ⟨aR.hasK (X.le.trans aa.le),aR.hasObj m5,aR.hasObj m3⟩ (fun _=>trivial) (gt (rv_not u) (gd' (qe_seq (wcc eG u (fun eI bK=>?_) (fun eI bK=>?_))))))
 ·refine sr (lv (r_f u) (nq (rr ?_)))
  cases oi bK
  exact ey results4 ⟨eH,u,aR.s⟩
 refine wc_skip (qs (sr (mv u (mv u ?_))))
 obtain⟨iH,eJ,eK⟩:=ob bK
 refine lk co20 ((bag_laws_toStringS F) aR.enter0 (SliceAt.mono (((((((((((((((R.le.trans V.le).trans Y.le).trans H.le).trans J.le).trans O.le).trans W.le).trans q.le).trans s.le).trans x.le).trans y.le).trans T).trans S.le).trans U.le).trans X.le).trans aa.le) aX) eJ) ?_
 rintro iI iJ ⟨iK,iL,iM,iN,B326,rfl,ab,cE⟩
 have eL:=cE.mono only_le
 have cF:SH _ _ _ _ _ [_,_,_,_,_,_,_,_,_,_,_,_,_,_]:=SH.call0 aR ab
 obtain⟨iO,eM,eN⟩:=ob eK
 refine lk co23 (ok_laws_eqStringS F cF.enter0 (SliceAt.mono ((((((y.le.trans T).trans S.le).trans U.le).trans X.le).trans aa.le).trans ab.le) cs) eL eM) ?_
 rintro iP iQ ⟨eO,rfl,ac⟩
 have bL:SH _ _ _ _ _ [_,_,_,_,_,_,_,_,_,_,_,_,_,_]:=SH.call0 cF ac
 refine lv (rv_not u) (nq (wcc eN u (fun eP bM=>?_) (fun eP bM=>?_)))
 ·refine sr (lv (r_f u) (nq (rr ?_)))
  cases oi bM
  exact ey results4 ⟨eO,u,bL.s⟩
 refine wc_skip (qr (lv (rv_assign (v:=V6 1) u) (nr (lv (rv_loadmS (ds:=[V3 aF aG aH,V3 aI aJ aK]) tf36 u m5 bL u u) (mv u ?_)))))
 obtain⟨iR,eQ,eR⟩:=ob bM
 have cG:SH _ _ _ _ _ [_,_,_,_,_,_,_,_,_,_,_,_,_,_]:=SH.front (p:=[_,_,_,_,_,_,_,_,_,_]) bL
 have hd349: ∀b∈B193,b∉B143:=SH.bag_off cG _ m8
 have cH:=SliceAt.mono (only_but2 hd349) (SliceAt.mono (only_mono (((((((y.le.trans T).trans S.le).trans U.le).trans X.le).trans aa.le).trans ab.le).trans ac.le) fun _ h=>h) cr)
 have iS:=cH.mono only_le
 have aq:=cG.f8.f1
 have eS:=SH.flat_but (t:=tGHit) (fun h=>h) aq (SliceAt.mono ((((((T.trans S.le).trans U.le).trans X.le).trans aa.le).trans ab.le).trans ac.le) ct)
 have hd355: ∀b∈B264,b∉B143:=SH.bag_off aq _ m3
 have cI:=SliceAt.mono (only_but2 hd355) (SliceAt.mono (only_mono ((((U.le.trans X.le).trans aa.le).trans ab.le).trans ac.le) fun _ h=>h) cz)
 have iT:=cI.mono only_le
 have hd358: ∀b∈B264,b∉B143:=SH.bag_off aq _ m3
 have cJ:=SliceAt.mono (only_but2 hd358) (SliceAt.mono (only_mono ((((U.le.trans X.le).trans aa.le).trans ab.le).trans ac.le) fun _ h=>h) cA)
 have iU:=cJ.mono only_le
 have hd361: ∀b∈B168,b∉B143:=SH.bag_off aq _ m9
 have cK:=SliceAt.mono (only_but2 hd361) (SliceAt.mono (only_mono ((((((((x.le.trans y.le).trans T).trans S.le).trans U.le).trans X.le).trans aa.le).trans ab.le).trans ac.le) fun _ h=>h) cm)
 have iV:=cK.mono only_le
 have hd364: ∀b∈B168,b∉B143:=SH.bag_off aq _ m9
 have cL:=SliceAt.mono (only_but2 hd364) (SliceAt.mono (only_mono ((((((((x.le.trans y.le).trans T).trans S.le).trans U.le).trans X.le).trans aa.le).trans ab.le).trans ac.le) fun _ h=>h) cn)
 have iW:=cL.mono only_le
 have hd367: ∀b∈B296,b∉B143:=SH.bag_off aq _ m2
 have cM:=SliceAt.mono (only_but2 hd367) (SliceAt.mono (only_mono ((aa.le.trans ab.le).trans ac.le) fun _ h=>h) cC)
 have iX:=cM.mono only_le
 have hd370: ∀b∈B296,b∉B143:=SH.bag_off aq _ m2
 have cN:=SliceAt.mono (only_but2 hd370) (SliceAt.mono (only_mono ((aa.le.trans ab.le).trans ac.le) fun _ h=>h) cD)
 have iY:=cN.mono only_le
 have hd373: ∀b∈B326,b∉B143:=SH.bag_off aq _ m1
 have cO:=SliceAt.mono (only_but2 hd373) (cE.mono (only_mono ac.le fun _ h=>h))
 have iZ:=cO.mono only_le
 have hM376:=SH.toMk hS.holds aq
 refine lk co14 (ok_laws_markConf F hM376.e1 (SliceAt.mono (only_mono (((((((((s.le.trans x.le).trans y.le).trans T).trans S.le).trans U.le).trans X.le).trans aa.le).trans ab.le).trans ac.le) fun _ h=>h) ch) (SliceAt.mono (only_mono (((((((((s.le.trans x.le).trans y.le).trans T).trans S.le).trans U.le).trans X.le).trans aa.le).trans ab.le).trans ac.le) fun _ h=>h) cj) (by decide :rng64 1) eQ) ?_
 rintro ja jb ⟨jc,rfl,ae,eT⟩
 have cP:SH _ _ _ _ _ [_,_,_,_,_,_,_,_,_,_,_,_,_]:=SH.drop (SH.call (Lin:=[_]) hM376 ae)
 refine av u (nr (lv (rv_loadmS (ds:=[V3 aL aM aN,V3 aO aP aQ]) tf41 u m7 cP u u) (mv u ?_)))
 obtain⟨je,eU,eV⟩:=ob eR
 have cQ:=cP.f9
 have hd387: ∀b∈B193,b∉B168:=SH.bag_off cQ _ m8
 have cR:=SliceAt.mono (only_but2 hd387) (cH.mono (only_mono ae.le fun _ h=>h))
 have jj:=cR.mono only_le
 have aC:=cQ.f1.f1
 have eW:=SH.flat_but (t:=tGHit) (fun h=>h) aC (eS.mono ae.le)
 have hd393: ∀b∈B264,b∉B168:=SH.bag_off aC _ m3
 have cS:=SliceAt.mono (only_but2 hd393) (cI.mono (only_mono ae.le fun _ h=>h))
 have jl:=cS.mono only_le
 have hd396: ∀b∈B264,b∉B168:=SH.bag_off aC _ m3
 have cT:=SliceAt.mono (only_but2 hd396) (cJ.mono (only_mono ae.le fun _ h=>h))
 have jm:=cT.mono only_le
 have hd399: ∀b∈B296,b∉B168:=SH.bag_off aC _ m2
 have cU:=SliceAt.mono (only_but2 hd399) (cM.mono (only_mono ae.le fun _ h=>h))
 have jo:=cU.mono only_le
 have hd402: ∀b∈B296,b∉B168:=SH.bag_off aC _ m2
 have cV:=SliceAt.mono (only_but2 hd402) (cN.mono (only_mono ae.le fun _ h=>h))
 have jp:=cV.mono only_le
 have hd405: ∀b∈B326,b∉B168:=SH.bag_off aC _ m1
 have cW:=SliceAt.mono (only_but2 hd405) (cO.mono (only_mono ae.le fun _ h=>h))
 have jq:=cW.mono only_le
 have hM408:=SH.toMk hS.holds aC
 refine lk co15 (ok_laws_markSeg F hM408.e1 (cK.mono (only_mono ae.le fun _ h=>h)) (cL.mono (only_mono ae.le fun _ h=>h)) eT eU) ?_
 rintro jr jt ⟨jw,rfl,af,eX⟩
 have eY:SH _ _ _ _ _ [_,_,_,_,_,_,_,_,_,_,_,_]:=SH.drop (SH.call (Lin:=[_]) hM408 af)
 refine av u (nr (mv u (mv u ?_)))
 obtain⟨jx,eZ,fb⟩:=ob eV
 have aD:=eY.f8.f1.f1
 have cX:=SH.flat_but (t:=tGHit) (fun h=>h) aD (eW.mono af.le)
 have hd422: ∀b∈B264,b∉B193:=SH.bag_off aD _ m3
 have fc:=SliceAt.mono (only_but2 hd422) (cS.mono (only_mono af.le fun _ h=>h))
 have jy:=fc.mono only_le
 have hd425: ∀b∈B264,b∉B193:=SH.bag_off aD _ m3
 have fd:=SliceAt.mono (only_but2 hd425) (cT.mono (only_mono af.le fun _ h=>h))
 have jz:=fd.mono only_le
 have hd428: ∀b∈B296,b∉B193:=SH.bag_off aD _ m2
 have fe:=SliceAt.mono (only_but2 hd428) (cU.mono (only_mono af.le fun _ h=>h))
 have jA:=fe.mono only_le
 have hd431: ∀b∈B296,b∉B193:=SH.bag_off aD _ m2
 have fg:=SliceAt.mono (only_but2 hd431) (cV.mono (only_mono af.le fun _ h=>h))
 have jB:=fg.mono only_le
 have hd434: ∀b∈B326,b∉B193:=SH.bag_off aD _ m1
 have fh:=SliceAt.mono (only_but2 hd434) (cW.mono (only_mono af.le fun _ h=>h))
 have jC:=fh.mono only_le
 have hM437:=SH.toMk hS.holds aD
 refine lk co24 (ok_laws_markStringS F hM437.e1 (cR.mono (only_mono af.le fun _ h=>h)) eX eZ) ?_
 rintro jD jE ⟨cY,rfl,aj,jF⟩
 have bN:SH _ _ _ _ _ [_,_,_,_,_,_,_,_,_,_,_]:=SH.drop (SH.call (Lin:=[_]) hM437 aj)
 refine av u (ns (wc_seq ?_))
 obtain⟨fi,fj,fk⟩:=ob fb
 refine wc_cutg (IV w K [] cY [(2,sv q2),(3,V3 G m n),(4,V6 q4),(5,pt am),(6,pt an),(12,V3 bC bD bE),(13,V6 cg.2),(17,V3 az aA aB),(114,.bool fi)] [obj am [V3 A a b,V3 B c d] 25,obj an [V3 C f i,V3 D k l] 29,tail (V3 az aA aB) 92 2,bag B326,bag B296,bag B264,bag B116,bag B97,bag B78]) ?_ ?_
 ·refine wc_region (mv u (lv (rv_lss u u) (mv u (bt fj (fun ag bO=>?_) (fun ag bO=>?_)))))
  ·refine lu ag (lu ag (lu ag (lu ag (lv (p_t u ag u) (mv u (lu u (lu u (lu u (lv (p_t u u u) ?_)))))))))
   refine wl_nil ?_
   cases oi bO
   have fm:SH _ _ _ _ _ [_,_,_,_,_,_,_,_,_,_,_]:=SH.front (p:=[_,_,_,_,_,_,_,_,_,_]) bN
   have fn:SH _ _ _ _ _ [_,_,_,_,_,_,_,_,_,_,_]:=SH.front (p:=[_,_,_,_,_,_,_,_,_,_]) fm
   have fo:SH _ _ _ _ _ [_,_,_,_,_,_,_,_,_,_,_]:=SH.front (p:=[_,_,_,_,_,_,_,_,_,_]) fn
   exact qd ⟨cY,u,fo.f6.f6.f6.f6.f8.f8.s,kr⟩
  refine lg ag (rv_move u) (lg ag (rv_move u) ?_)
  obtain⟨jG,fp,fq⟩:=ob bO
  refine wl_call (wg u u ag) u (rt_call (vs:=[V3 az aA aB,V3 bC bD bE]) co22 u) (ok_laws_eqHitS F bN.enter0 (cX.mono aj.le) (SliceAt.mono ((le_but ((le_but ((le_but ((((((((((q.le.trans s.le).trans x.le).trans y.le).trans T).trans S.le).trans U.le).trans X.le).trans aa.le).trans ab.le).trans ac.le) I.holds fun b hb=>(q.bag_new b hb).1).trans ae.le) (fun b o v e=>ah.holds b o v (q.le b o v e)) fun b hb=>(s.bag_new b hb).1).trans af.le) (fun b o v e=>ao.holds b o v ((q.le.trans s.le) b o v e)) fun b hb=>(x.bag_new b hb).1).trans aj.le) bF) fp) ?_
  rintro jH jI ⟨cZ,rfl,bP⟩
  refine⟨_,u,?_⟩
  have da:=(bN.c0 bP).t11
  refine lg ag (rv_not u) (lv (rv_pick_f u ag u) (mv u (bt fq (fun ar bQ=>?_) (fun ar bQ=>?_))))
  ·refine lu ar (lu ar (lu ar (lv (p_t u ar u) (wl_nil ?_))))
   cases oi bQ
   have fr:SH _ _ _ _ _ [_,_,_,_,_,_,_,_,_,_,_]:=SH.front (p:=[_,_,_,_,_,_,_,_,_,_]) da
   have fs:SH _ _ _ _ _ [_,_,_,_,_,_,_,_,_,_,_]:=SH.front (p:=[_,_,_,_,_,_,_,_,_,_]) fr
   have ft:SH _ _ _ _ _ [_,_,_,_,_,_,_,_,_,_,_]:=SH.front (p:=[_,_,_,_,_,_,_,_,_,_]) fs
   exact qd ⟨cZ,u,ft.f6.f6.f6.f6.f8.f8.s,bP.le⟩
  refine lg ar (rv_move u) (lg ar (rv_move u) (lg ar (rv_neq u u) (lv (rv_pick_f u ar u) (wl_nil ?_))))
  cases oi bQ
  have fu:SH _ _ _ _ _ [_,_,_,_,_,_,_,_,_,_,_]:=SH.front (p:=[_,_,_,_,_,_,_,_,_,_]) da
  have fv:SH _ _ _ _ _ [_,_,_,_,_,_,_,_,_,_,_]:=SH.front (p:=[_,_,_,_,_,_,_,_,_,_]) fu
  have fw:SH _ _ _ _ _ [_,_,_,_,_,_,_,_,_,_,_]:=SH.front (p:=[_,_,_,_,_,_,_,_,_,_]) fv
  exact qd ⟨cZ,u,fw.f6.f6.f6.f6.f8.f8.s,bP.le⟩
 rintro _ jJ ⟨fx,rfl,db,aE⟩
 refine qe_seq (wcc fk u (fun fy bR=>?_) (fun fy bR=>?_))
 ·refine sr (lv (r_f u) (nq (rr ?_)))
  cases oi bR
  exact ey results4 ⟨fx,u,db.s⟩
 refine wc_skip (qr (lv (rv_assign (v:=V6 1) u) (nr (mv u (mv u ?_)))))
 obtain⟨fz,fA,fB⟩:=ob bR
 refine lk co25 ((xc_laws_markHitS F) hS.holds db.f2 (cX.mono (aj.le.trans aE)) (by decide :rng64 1) fA) ?_
 rintro jK jL ⟨jM,rfl,fC,dc,aS,jN⟩
 have dd:SH _ _ _ _ _ [_,_,_,_,_,_,_,_,_]:=fC
 refine av u (nr (lv (rv_assign (v:=V6 1) u) (nr (mv u (mv u ?_)))))
 obtain⟨jO,fD,fE⟩:=ob fB
 refine lk co26 (ok_laws_heldHitS F dd.enter0 dc (by decide :rng64 1) fD) ?_
 rintro jP jQ ⟨bS,rfl,ay,jR⟩
 have bT:=(dd.c0 ay).t9
 refine av u (nsr (mv u (lv (rv_lss u u) (nq (wcc fE u (fun fF bU=>?_) (fun fF bU=>?_))))))
 ·refine sr (lv (r_f u) (nq (rr ?_)))
  cases oi bU
  exact ey results4 ⟨bS,u,bT.s⟩
 refine wc_skip (qs (sr (mv u (mv u (lv (rv_neq u u) (nq (wcc bU u (fun fG bV=>?_) (fun fG bV=>?_))))))))
 ·refine sr (lv (r_f u) (nq (rr ?_)))
  cases oi bV
  exact ey results4 ⟨bS,u,bT.s⟩
 refine wc_skip (qs ?_)
 have bg:=bT.drew
 refine j_0 (fun w'=>Holds bS w'∧HasObj am [V3 A a b,V3 B c d] w'∧HasObj an [V3 C f i,V3 D k l] w') 14 [] mixed ⟨bg.hasK kr,bg.hasObj m1,bg.hasObj m2⟩ (jh 0 u (fun _ h=>rh_loadmS (ds:=[V3 A a b,V3 B c d]) tf25 u u u h.2.1) (jh 2 u (fun _ h=>rh_loadmS (ds:=[V3 C f i,V3 D k l]) tf29 u u u h.2.2) (jv 4 u (rv_move u) (jv 5 u (rv_move u) (jv 7 u (rv_move u) (j1 1 u ?_))))))
 obtain⟨jS,fH,fI⟩:=ob bV
 refine lk co8 ((bag_laws_toConf F) bg.enter0 (SliceAt.mono (((((((((R.le.trans V.le).trans Y.le).trans H.le).trans J.le).trans O.le).trans W.le).trans (le_but (((le_but ((le_but ((le_but ((((((((((q.le.trans s.le).trans x.le).trans y.le).trans T).trans S.le).trans U.le).trans X.le).trans aa.le).trans ab.le).trans ac.le) I.holds fun b hb=>(q.bag_new b hb).1).trans ae.le) (fun b o v e=>ah.holds b o v (q.le b o v e)) fun b hb=>(s.bag_new b hb).1).trans af.le) (fun b o v e=>ao.holds b o v ((q.le.trans s.le) b o v e)) fun b hb=>(x.bag_new b hb).1).trans aj.le).trans aE) (fun b o v e=>ai.holds b o v (((q.le.trans s.le).trans x.le) b o v e)) (SH.tail_new y))).trans aS).trans ay.le) aT) (SliceAt.mono (((((((((R.le.trans V.le).trans Y.le).trans H.le).trans J.le).trans O.le).trans W.le).trans (le_but (((le_but ((le_but ((le_but ((((((((((q.le.trans s.le).trans x.le).trans y.le).trans T).trans S.le).trans U.le).trans X.le).trans aa.le).trans ab.le).trans ac.le) I.holds fun b hb=>(q.bag_new b hb).1).trans ae.le) (fun b o v e=>ah.holds b o v (q.le b o v e)) fun b hb=>(s.bag_new b hb).1).trans af.le) (fun b o v e=>ao.holds b o v ((q.le.trans s.le) b o v e)) fun b hb=>(x.bag_new b hb).1).trans aj.le).trans aE) (fun b o v e=>ai.holds b o v (((q.le.trans s.le).trans x.le) b o v e)) (SH.tail_new y))).trans aS).trans ay.le) aU) fH) ?_
 rintro jT jU ⟨jV,jW,jX,jY,jZ,ka,kb,B531,rfl,ak,fJ,fK⟩
 have fL:=fJ.mono only_le
 have fM:=fK.mono only_le
 have bh:=(bg.c0 ak).t10
 refine j_o ⟨bh.hasK ak.le,bh.hasObj m2,bh.hasObj m3⟩ (j1 3 u ?_)
 obtain⟨ke,fN,fO⟩:=ob fI
 refine lk co9 ((bag_laws_toSeg F) bh.enter0 (SliceAt.mono ((((((((((R.le.trans V.le).trans Y.le).trans H.le).trans J.le).trans O.le).trans W.le).trans (le_but (((le_but ((le_but ((le_but ((((((((((q.le.trans s.le).trans x.le).trans y.le).trans T).trans S.le).trans U.le).trans X.le).trans aa.le).trans ab.le).trans ac.le) I.holds fun b hb=>(q.bag_new b hb).1).trans ae.le) (fun b o v e=>ah.holds b o v (q.le b o v e)) fun b hb=>(s.bag_new b hb).1).trans af.le) (fun b o v e=>ao.holds b o v ((q.le.trans s.le) b o v e)) fun b hb=>(x.bag_new b hb).1).trans aj.le).trans aE) (fun b o v e=>ai.holds b o v (((q.le.trans s.le).trans x.le) b o v e)) (SH.tail_new y))).trans aS).trans ay.le).trans ak.le) aV) (SliceAt.mono ((((((((((R.le.trans V.le).trans Y.le).trans H.le).trans J.le).trans O.le).trans W.le).trans (le_but (((le_but ((le_but ((le_but ((((((((((q.le.trans s.le).trans x.le).trans y.le).trans T).trans S.le).trans U.le).trans X.le).trans aa.le).trans ab.le).trans ac.le) I.holds fun b hb=>(q.bag_new b hb).1).trans ae.le) (fun b o v e=>ah.holds b o v (q.le b o v e)) fun b hb=>(s.bag_new b hb).1).trans af.le) (fun b o v e=>ao.holds b o v ((q.le.trans s.le) b o v e)) fun b hb=>(x.bag_new b hb).1).trans aj.le).trans aE) (fun b o v e=>ai.holds b o v (((q.le.trans s.le).trans x.le) b o v e)) (SH.tail_new y))).trans aS).trans ay.le).trans ak.le) aW) fN) ?_
 rintro kf ki ⟨kj,kk,kl,ko,kp,kq,ks,B550,rfl,au,fP,fQ⟩
 have fR:=fP.mono only_le
 have fS:=fQ.mono only_le
 have bi:=(bh.c0 au).t11
 refine j_o ⟨bi.hasK (ak.le.trans au.le),bi.hasObj m3,bi.hasObj m4⟩ (j1 6 u ?_)
 obtain⟨kt,fT,fU⟩:=ob fO
 refine lk co20 ((bag_laws_toStringS F) bi.enter0 (SliceAt.mono (((((((((((R.le.trans V.le).trans Y.le).trans H.le).trans J.le).trans O.le).trans W.le).trans (le_but (((le_but ((le_but ((le_but ((((((((((q.le.trans s.le).trans x.le).trans y.le).trans T).trans S.le).trans U.le).trans X.le).trans aa.le).trans ab.le).trans ac.le) I.holds fun b hb=>(q.bag_new b hb).1).trans ae.le) (fun b o v e=>ah.holds b o v (q.le b o v e)) fun b hb=>(s.bag_new b hb).1).trans af.le) (fun b o v e=>ao.holds b o v ((q.le.trans s.le) b o v e)) fun b hb=>(x.bag_new b hb).1).trans aj.le).trans aE) (fun b o v e=>ai.holds b o v (((q.le.trans s.le).trans x.le) b o v e)) (SH.tail_new y))).trans aS).trans ay.le).trans ak.le).trans au.le) aX) fT) ?_
 rintro kw kx ⟨ky,kz,kA,kB,B569,rfl,aw,fV⟩
 have fW:=fV.mono only_le
 have bj:=(bi.c0 aw).t12
 refine j_o ⟨bj.hasK ((ak.le.trans au.le).trans aw.le),bj.hasObj m4,bj.hasObj m5⟩ (j1 8 u ?_)
 obtain⟨kC,fX,fY⟩:=ob fU
 refine lk co21 (ok_impl_BoundTop F bj.enter0 (fL.mono (au.le.trans aw.le)) (fM.mono (au.le.trans aw.le)) (fR.mono aw.le) (fS.mono aw.le) bq fW br fX) ?_
 rintro kD kE ⟨kF,kG,kH,fZ,rfl,bp,ga,kI⟩
 have bk:SH _ _ _ _ _ [_,_,_,_,_,_,_,_,_,_,_,_,_]:=SH.call0 bj bp
 refine j_o ⟨bk.hasK (((ak.le.trans au.le).trans aw.le).trans bp.le),bk.hasObj m5,bk.hasObj m6⟩ (jv 9 u (rv_move u) (jv 10 u (rv_extract u u) (jv 11 u (rv_extract u u) (jv 12 u (rv_assign u) (jv 13 u (rv_assign u) (jd (qs (wc_seq ?_))))))))
 obtain⟨gb,gc,gd⟩:=ob fY
 refine wc_cutg (IV w K [] fZ [(17,V3 az aA aB),(20,V6 fz),(146,.bool gb)] [tail (V3 az aA aB) 92 2,bag B569,bag B550,bag B531,bag B326,bag B296,bag B264,bag B116,bag B97,bag B78]) ?_ ?_
 ·refine wc_region (mv u (mv u ?_))
  obtain⟨kJ,ge,gg⟩:=ob gc
  refine lk co22 (ok_laws_eqHitS F bk.enter0 ga (SliceAt.mono (((((((le_but (((le_but ((le_but ((le_but ((((((((((q.le.trans s.le).trans x.le).trans y.le).trans T).trans S.le).trans U.le).trans X.le).trans aa.le).trans ab.le).trans ac.le) I.holds fun b hb=>(q.bag_new b hb).1).trans ae.le) (fun b o v e=>ah.holds b o v (q.le b o v e)) fun b hb=>(s.bag_new b hb).1).trans af.le) (fun b o v e=>ao.holds b o v ((q.le.trans s.le) b o v e)) fun b hb=>(x.bag_new b hb).1).trans aj.le).trans aE) (fun b o v e=>ai.holds b o v (((q.le.trans s.le).trans x.le) b o v e)) (SH.tail_new y)).trans aS).trans ay.le).trans ak.le).trans au.le).trans aw.le).trans bp.le) bF) ge) ?_
  rintro kK kL ⟨de,rfl,bW⟩
  have df:SH _ _ _ _ _ [_,_,_,_,_,_,_,_,_,_,_,_,_]:=SH.call0 bk bW
  refine lv (rv_not u) (mv u (bt gg (fun ax bX=>?_) (fun ax bX=>?_)))
  ·refine lu ax (lu ax (lu ax (lv (p_t u ax u) (wl_nil ?_))))
   cases oi bX
   have gj:SH _ _ _ _ _ [_,_,_,_,_,_,_,_,_,_,_,_,_]:=SH.front (p:=[_,_,_,_,_,_,_,_,_,_,_,_]) df
   have gk:SH _ _ _ _ _ [_,_,_,_,_,_,_,_,_,_,_,_,_]:=SH.front (p:=[_,_,_,_,_,_,_,_,_,_,_,_]) gj
   have gl:SH _ _ _ _ _ [_,_,_,_,_,_,_,_,_,_,_,_,_]:=SH.front (p:=[_,_,_,_,_,_,_,_,_,_,_,_]) gk
   have gm:SH _ _ _ _ _ [_,_,_,_,_,_,_,_,_,_,_,_,_]:=SH.front (p:=[_,_,_,_,_,_,_,_,_,_,_,_]) gl
   have go:SH _ _ _ _ _ [_,_,_,_,_,_,_,_,_,_,_,_,_]:=SH.front (p:=[_,_,_,_,_,_,_,_,_,_,_,_]) gm
   have gp:SH _ _ _ _ _ [_,_,_,_,_,_,_,_,_,_,_,_,_]:=SH.front (p:=[_,_,_,_,_,_,_,_,_,_,_,_]) go
   have gq:SH _ _ _ _ _ [_,_,_,_,_,_,_,_,_,_,_,_,_]:=SH.front (p:=[_,_,_,_,_,_,_,_,_,_]) gp.f9.f9.f9
   exact qd ⟨de,u,gq.s,bW.le⟩
  refine lg ax (rv_move u) (lg ax (rv_move u) (lg ax (rv_neq u u) (lv (rv_pick_f u ax u) (wl_nil ?_))))
  cases oi bX
  have gr:SH _ _ _ _ _ [_,_,_,_,_,_,_,_,_,_,_,_,_]:=SH.front (p:=[_,_,_,_,_,_,_,_,_,_,_,_]) df
  have gv:SH _ _ _ _ _ [_,_,_,_,_,_,_,_,_,_,_,_,_]:=SH.front (p:=[_,_,_,_,_,_,_,_,_,_,_,_]) gr
  have gw:SH _ _ _ _ _ [_,_,_,_,_,_,_,_,_,_,_,_,_]:=SH.front (p:=[_,_,_,_,_,_,_,_,_,_,_,_]) gv
  have gx:SH _ _ _ _ _ [_,_,_,_,_,_,_,_,_,_,_,_,_]:=SH.front (p:=[_,_,_,_,_,_,_,_,_,_,_,_]) gw
  have gy:SH _ _ _ _ _ [_,_,_,_,_,_,_,_,_,_,_,_,_]:=SH.front (p:=[_,_,_,_,_,_,_,_,_,_,_,_]) gx
  have gz:SH _ _ _ _ _ [_,_,_,_,_,_,_,_,_,_,_,_,_]:=SH.front (p:=[_,_,_,_,_,_,_,_,_,_,_,_]) gy
  have gA:SH _ _ _ _ _ [_,_,_,_,_,_,_,_,_,_,_,_,_]:=SH.front (p:=[_,_,_,_,_,_,_,_,_,_]) gz.f9.f9.f9
  exact qd ⟨de,u,gA.s,bW.le⟩
 rintro _ kM ⟨gB,rfl,bY,gC⟩
 refine qe_seq (wcc gd u (fun gD bZ=>?_) (fun gD bZ=>?_))
 ·refine sr (lv (r_f u) (nq (rr ?_)))
  cases oi bZ
  exact ey results4 ⟨gB,u,bY.s⟩
 refine wc_skip (qr (lv (rv_assign (v:=V6 1) u) (nr (mv u (mv u ?_)))))
 obtain⟨kN,gE,gF⟩:=ob bZ
 refine lk co26 (ok_laws_heldHitS F bY.enter0 (SliceAt.mono (((((ay.le.trans ak.le).trans au.le).trans aw.le).trans bp.le).trans gC) dc) (by decide :rng64 1) gE) ?_
 rintro kO kP ⟨ca,rfl,gG,kQ⟩
 have cb:=(bY.c0 gG).t10
 refine av u (nsr (mv u (lv (rv_lss u u) (nq (wcc gF u (fun gH cc=>?_) (fun gH cc=>?_))))))
 ·refine sr (lv (r_f u) (nq (rr ?_)))
  cases oi cc
  exact ey results4 ⟨ca,u,cb.s⟩
 refine wc_skip (qs (sr (mv u (mv u (lv (rv_neq u u) (nq (wcc cc u (fun gI cd=>?_) (fun gI cd=>?_))))))))
 ·refine sr (lv (r_f u) (nq (rr ?_)))
  cases oi cd
  exact ey results4 ⟨ca,u,cb.s⟩
 refine wc_skip (qr (lv (r_t u) (nq (wc_ret ?_))))
 cases oi cd
 exact ey results4 ⟨ca,u,cb.s⟩
end Go.Proofs.YtfiahfncijjliaaGreatDoor
