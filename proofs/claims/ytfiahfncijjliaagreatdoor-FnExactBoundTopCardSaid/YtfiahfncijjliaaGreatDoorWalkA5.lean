/-
 Walks of the functions. Printed by gen.py.
-/
import Derived.Test.YtfiahfncijjliaaGreatDoorWalkA0
import Derived.Test.YtfiahfncijjliaaGreatDoorWalkA2
import Derived.Test.YtfiahfncijjliaaGreatDoorWalkA3
set_option linter.unusedVariables false
set_option linter.unusedSectionVars false
set_option maxRecDepth 100000
namespace Go.Proofs.YtfiahfncijjliaaGreatDoor
set_option maxHeartbeats 4000000
open Go Go.Fk Go.RowKit Tryz
variable (F:Nat){w:World}{K:KMap}{Z:List Nat}{g1 g2 g3:Nat}{A B C D G H I J O R S T:Option Addr}{a b c d f i k l m n o p q s v x y aa ab ac ad ae af ag:Nat}
variable [dr:Dr]

theorem ok_laws_szSeg {q0:GSeg}{q1:Int}{r:Int}(hS:SH w K [] w K [])(s:SliceAt tGDoc K A a b q0.Docs)(x:SliceAt tGEntry K B c d q0.Entries)(y:rng64 q1)(hm:M.laws_szSeg F q0 q1=some r):
  Calls prog 6 #[.agg #[V3 A a b,V3 B c d],V6 q1] w (R_i w K r):=by
 rw [M.laws_szSeg] at hm
 refine ci func6 u ntmps6 (sr (bx u hS fun C W D=>?_))
 have i:SH _ _ _ _ _ [obj C [V3 A a b,V3 B c d] 29]:=D
 refine lv (r_0 u) (nr (fl ff29_0 u tf26 m0 i u (mv u ?_)))
 obtain⟨X,G,H⟩:=ob hm
 refine lk co28 (ok_laws_szDocS F i.enter0 s y G) ?_
 rintro Y aa ⟨I,rfl,m,J⟩
 have f:=(i.c0 m).t1
 refine av u (nsr (mv u (lv (rv_lss u u) (nq (wcc H u (fun O k=>?_) (fun O k=>?_))))))
 ·refine sr (lv (rv_assign (v:=V6 (-1)) u) (nq (rr ?_)))
  cases oi k
  exact ey results6 ⟨I,u,f.s,(by decide :rng64 (-1))⟩
 refine wc_skip (qr (fl ff29_1 u tf27 m0 f u (mv u ?_)))
 obtain⟨ab,R,S⟩:=ob k
 refine lk co29 (ok_laws_szEntryS F f.enter0 (x.mono m.le) J R) ?_
 rintro ac ad ⟨o,rfl,T,U⟩
 have q:=(f.c0 T).t1
 refine av u (nsr (mv u (lv (rv_lss u u) (nq (wcc S u (fun V l=>?_) (fun V l=>?_))))))
 ·refine sr (lv (rv_assign (v:=V6 (-1)) u) (nq (rr ?_)))
  cases oi l
  exact ey results6 ⟨o,u,q.s,(by decide :rng64 (-1))⟩
 refine wc_skip (qr (mv u (av u (nq (wc_ret ?_)))))
 cases oi l
 exact ey results6 ⟨o,u,q.s,U⟩

theorem bag_laws_toSeg (F:Nat){w:World}{K:KMap}{a1:Option Addr}{n2 c3:Nat}{a5:Option Addr}{n6 c7:Nat}{p0_a:GSeg}{r:GSeg}(hS:SH w K [] w K [])(hs4:SliceAt tGDoc K a1 n2 c3 p0_a.Docs)(hs8:SliceAt tGEntry K a5 n6 c7 p0_a.Entries)(hm:M.laws_toSeg F p0_a=some r):
  Calls Tryz.prog 9 #[.agg #[.slice a1 n2 c3,.slice a5 n6 c7]] w fun e w'=>∃(a_1:Option Addr) (n_2 c_3:Nat) (a_5:Option Addr) (n_6 c_7:Nat) (K':KMap) (B':List Nat),e= .returned (.agg #[.slice a_1 n_2 c_3,.slice a_5 n_6 c_7])∧SH w K [] w' K' [bag B']∧SliceAt tGDoc (K'.only B') a_1 n_2 c_3 r.Docs∧SliceAt tGEntry (K'.only B') a_5 n_6 c_7 r.Entries:=by
 rw [M.laws_toSeg] at hm
 refine calls_in Tryz.func9 u Tryz.ntmps9 u ?_
 refine sr ?_
 refine wl_box wn u u hS ?_
 intro g9 w10 hS11
 have hS12:SH _ _ _ _ _ [obj g9 [.slice a1 n2 c3,.slice a5 n6 c7] 29]:=hS11
 refine wl_alloc wn u tf41 hS12 ?_
 intro g13 w14 hS15
 have hS16:SH _ _ _ _ _ [obj g13 [.slice none 0 0,.slice none 0 0] 41,_]:=hS15
 refine nr ?_
 refine wl_alloc wn u tf41 hS16 ?_
 intro g17 w18 hS19
 have hS20:SH _ _ _ _ _ [obj g17 [.slice none 0 0,.slice none 0 0] 41,_,_]:=hS19
 refine nr ?_
 refine wl_val wn u (rv_fieldAddr ff29_0 u) ?_
 refine wl_val wn u (rv_loadm1 tf26 u (.tail _ (.tail _ (.head _))) hS20 u) ?_
 obtain⟨r21,hx22,h23⟩:=ob hm
 refine wl_call wn u (rt_call (vs:=[.slice a1 n2 c3]) co33 u) ((bag_laws_toDocS F) hS20.enter0 hs4 hx22) ?_
 rintro e31 w25 ⟨a27,n28,c29,K24,B24,rfl,hS26,hs30⟩
 refine⟨_,u,?_⟩
 have hS32:SH _ _ _ _ _ [_,_,_,_]:=SH.call0 hS20 hS26
 refine wl_val wn u (rv_fieldAddr ff41_0 u) ?_
 have hS33:SH _ _ _ _ _ [_,_,_,_]:=SH.front (p:=[_]) hS32
 refine wl_store (cs':=[.slice a27 n28 c29,.slice none 0 0]) (v:=.slice a27 n28 c29) wn tf38 u u u (by simp [Value.cells,Value.oneCell']) hS33 u u ?_
 intro w34 hS35
 refine nr ?_
 refine wl_val wn u (rv_fieldAddr ff29_1 u) ?_
 refine wl_val wn u (rv_loadm1 tf27 u (.tail _ (.tail _ (.tail _ (.head _)))) hS35 u) ?_
 obtain⟨r36,hx37,h38⟩:=ob h23
 refine wl_call wn u (rt_call (vs:=[.slice a5 n6 c7]) co34 u) ((bag_laws_toEntryS F) hS35.enter0 (SliceAt.mono hS26.le hs8) hx37) ?_
 rintro e46 w40 ⟨a42,n43,c44,K39,B39,rfl,hS41,hs45⟩
 refine⟨_,u,?_⟩
 have hS47:SH _ _ _ _ _ [_,_,_,_,_]:=SH.call0 hS35 hS41
 refine wl_val wn u (rv_fieldAddr ff41_1 u) ?_
 have hS48:SH _ _ _ _ _ [_,_,_,_,_]:=SH.front (p:=[_]) hS47
 refine wl_store (cs':=[.slice a27 n28 c29,.slice a42 n43 c44]) (v:=.slice a42 n43 c44) wn tf39 u u u (by simp [Value.cells,Value.oneCell']) hS48 u u ?_
 intro w49 hS50
 refine nr ?_
 refine wl_val wn u (rv_loadmS (ds:=[.slice a27 n28 c29,.slice a42 n43 c44]) tf41 u (.head _) hS50 u u) ?_
 have hS51:SH _ _ _ _ _ [_,_,_,_,_]:=SH.front (p:=[_,_,_]) hS50
 refine wl_store (cs':=[.slice a27 n28 c29,.slice a42 n43 c44]) (v:=.agg #[.slice a27 n28 c29,.slice a42 n43 c44]) wn tf41 u u u (by simp [Value.cells,Value.oneCell']) hS51 u u ?_
 intro w52 hS53
 refine nq ?_
 refine wc_ret ?_
 obtain rfl:=oi h38
 have hS54:SH _ _ _ _ _ [_,_,_,_,_]:=SH.front (p:=[_,_]) hS53
 have hS55:SH _ _ _ _ _ [_,_,_,_,_]:=SH.front (p:=[_,_,_]) hS54
 have hS56:SH _ _ _ _ _ [_,_]:=SH.sublist hS55 (.cons_cons _ (.cons_cons _ (.cons _ (.cons _ (.cons _ .slnil)))))
 exact qe_ret (vs:=[_]) Tryz.results9 ⟨⟨_,_,u,run_loadVar_at tf41 (cs:=[.slice a27 n28 c29,.slice a42 n43 c44]) (fun j c e=>by rw [Nat.zero_add,hS53.mem_obj (.head _)];exact e) (.inl ⟨u,u,u⟩)⟩,trivial⟩ ⟨a27,n28,c29,a42,n43,c44,K39,(B24++B39),u,SH.bagJoin hS56,(SliceAt.mono (only_mono hS41.le fun _ h=>List.mem_append_left _ h) hs30),(SliceAt.mono (only_mono (KLe.refl _) fun _ h=>List.mem_append_right _ h) hs45)⟩

theorem ok_spec_l14Fast {q0:GConf}{q1:GSeg}{q2:Str}{q3:List Str}{q4:Int}{r:(List GHit)×Int}(hS:SH w K [] w K [])(ek:SliceAt tStr K A a b q0.Stops)(el:SliceAt tGSyn K B c d q0.Syns)(ay:SliceAt tGDoc K C f i q1.Docs)(bc:SliceAt tGEntry K D k l q1.Entries)(bd:q2.length≤maxLen)(ak:SliceAt tStr K G m n q3)(bv:rng64 q4)(hm:M.spec_l14Fast F q0 q1 q2 q3 q4=some r):
  Calls prog 49 #[.agg #[V3 A a b,V3 B c d],.agg #[V3 C f i,V3 D k l],sv q2,V3 G m n,V6 q4] w fun e w'=>∃a_1 n_2 c_3 K',e= .returned (.tuple #[V3 a_1 n_2 c_3,V6 r.2])∧SH w K [] w' K' []∧SliceAt tGHit K' a_1 n_2 c_3 r.1∧rng64 r.2:=by
 rw [M.spec_l14Fast] at hm
 refine ci func49 u ntmps49 (sr (bx u hS fun bz em bA=>?_))
 have bB:SH _ _ _ _ _ [obj bz [V3 A a b,V3 B c d] 36]:=bA
 refine bx u bB fun o en bC=>?_
 have bD:SH _ _ _ _ _ [obj o [V3 C f i,V3 D k l] 41,_]:=bC
 refine lv (r_n u) (lv (r_0 u) (nr (b0 tGHit underlying51 tf92 bD fun am eo ep T bE bF=>(av u (nr (lv (r_0 u) (nr (wl_buildSlice0 (tSlice tGBlock) wn u underlying85 tf32 bF fun bG eq aN I bH bI=>(av u ?_)))))))))
 refine nsr (lv (r_0 u) (nq ?_))
 obtain⟨bJ,bK,bL⟩:=ob hm
 refine wc_cutg (fun E' w'=>∃q s x ab,E'=[(2,sv q2),(3,V3 G m n),(4,V6 q4),(6,pt o),(12,V3 am 0 0),(13,V6 0),(14,V3 q s x)]∧SH w K [] w' ab [obj o [V3 C f i,V3 D k l] 41,tail (V3 am 0 0) 92 2,tail (V3 q s x) 32 1]∧KLe aN ab∧SliceAt (tSlice tGBlock) ab q s x bJ) ?_ ?_
 ·refine wc_block ?_
  obtain⟨es,bM,bN⟩:=ob bK
  have bO:=bI.f1.f2.sb (sk (sk (sk (sd sz))))
  refine qw (fun (az:(List (List GBlock))×Int) E' w'=>∃an ao ap ad,E'=[(2,sv q2),(3,V3 G m n),(4,V6 q4),(6,pt o),(12,V3 am 0 0),(13,V6 0),(14,V3 an ao ap),(15,V6 az.2)]∧SH w K [] w' ad [obj o [V3 C f i,V3 D k l] 41,tail (V3 am 0 0) 92 2,tail (V3 an ao ap) 32 1]∧KLe aN ad∧SliceAt (tSlice tGBlock) ad an ao ap az.1∧rng64 az.2) bM ⟨bG,0,0,aN,u,bO,kr,bH,d_0⟩ ?_
  rintro az _ et eu bP bQ ⟨an,ao,ap,ad,rfl,be,ae,bf,ev⟩
  refine wc_seq (sr (mv u (mv u (lv (rv_len underlying22 u (ak.mono ((T.trans I).trans ae))) (lv (rv_lss u u) (nq (wcc bP u (fun bR aO=>?_) (fun bR aO=>?_))))))))
  ·refine wc_skip (qs (wc_block ?_))
   have aA:=be.drew
   refine wh1 (fun w'=>Holds ad w'∧HasObj o [V3 C f i,V3 D k l] w') (fun w'=>True) 11 [] mixed ⟨aA.hasK kr,aA.hasObj m0⟩ (fun _=>trivial) (gt (rv_move u) (gh (fun _ h=>rh_loadmS (ds:=[V3 C f i,V3 D k l]) tf41 u u u h.2) (gt (rv_move u) (gt (rv_move u) (gt (rv_move u) ?_)))))
   obtain⟨bS,bT,bU⟩:=ob aO
   refine gi underlying22 tf9 (ak.mono ((T.trans I).trans ae)) bT fun bV bW ew bX bY=>?_
   obtain⟨rfl,bZ⟩:=bX
   have ca:AtK _ bV bW [sv bS]:=bY
   refine gh (fun _ h=>rh_load1 tf9 u (ca 0 _ u) h.1) (gn ?_)
   obtain⟨cb,cc,cd⟩:=ob bU
   refine lk co31 (ok_spec_l14Blocks F aA.enter0 (ay.mono ((T.trans I).trans ae)) (bc.mono ((T.trans I).trans ae)) bd bZ cc) ?_
   rintro ex eA ⟨bg,bh,bi,eB,rfl,af,ce⟩
   have aP:=(aA.c0 af).t4
   refine wl_nil (qh ⟨aP.hasK af.le,aP.hasObj m1⟩ (fun _=>trivial) (gn (lb (tSlice tGBlock) (V3 bg bh bi) [V3 bg bh bi] cb underlying85 tf32 ⟨_,_,_,u,ce⟩ aP fun eC eD eE aB cf aQ=>(wl_nil (qh ⟨aQ.hasK (af.le.trans aB),aQ.hasObj m2⟩ (fun _=>trivial) (gn ?_))))))
   obtain⟨eF,cg,ch⟩:=ob cd
   refine lp underlying85 tf32 (bf.mono (af.le.trans aB)) cf cg aQ.f4 fun cj ck cl eG cm bj cn aR=>(wl_nil (qh ⟨aR.hasK ((af.le.trans aB).trans bj),aR.hasObj m3⟩ (fun _=>trivial) (gt (rv_assign u) (gd' (qe_block (qe_seq (wc_region (mv u (lv (rv_add u u) (av u ?_))))))))))
   refine wl_nil ?_
   cases oi ch
   exact qd ⟨_,u,cj,ck,cl,cm,u,aR.f4.f4.s,(((ae.trans af.le).trans aB).trans bj),cn,(w64_rng _)⟩
  refine wc_exit (qe_then_exit (qe_then_exit ?_))
  cases oi aO
  cases bQ _ u
  refine qe_block_eq ?_
  cases oi bN
  exact qd ⟨an,ao,ap,ad,u,be,ae,bf⟩
 rintro _ eH ⟨q,s,x,ab,rfl,cp,Y,cq⟩
 refine qs (sr (lv (r_0 u) (nq ?_)))
 obtain⟨aS,cr,ct⟩:=ob bL
 refine wc_cutg (fun E' w'=>∃aC aD aE aq,E'=[(12,V3 aC aD aE),(13,V6 aS.2)]∧SH w K [] w' aq []∧KLe ab aq∧SliceAt tGHit aq aC aD aE aS.1∧rng64 aS.2) ?_ ?_
 ·refine wc_block ?_
  obtain⟨eI,cu,cv⟩:=ob cr
  have cw:=cp.sb (sk (sd (sk sz)))
  refine qw (fun (y:(List GHit)×Int×Int) E' w'=>∃U V W aa,E'=[(2,sv q2),(3,V3 G m n),(4,V6 q4),(6,pt o),(12,V3 U V W),(13,V6 y.2.1),(14,V3 q s x),(16,V6 y.2.2)]∧SH w K [] w' aa [obj o [V3 C f i,V3 D k l] 41,tail (V3 q s x) 32 1]∧KLe ab aa∧SliceAt tGHit aa U V W y.1∧rng64 y.2.1∧rng64 y.2.2) cu ⟨am,0,0,ab,u,cw,kr,(bE.mono (I.trans Y)),d_0,d_0⟩ ?_
  rintro y _ eJ eK cx cy ⟨U,V,W,aa,rfl,ar,J,ag,bk,eL⟩
  refine wc_seq (sr (mv u (fl ff41_0 u tf38 m0 ar u (lv (rv_len underlying38 u (SliceAt.mono (((T.trans I).trans Y).trans J) ay)) (lv (rv_lss u u) (nq (wcc cx u (fun cz aT=>?_) (fun cz aT=>?_))))))))
  ·refine wc_skip (qs (wc_block (sr (fl ff41_0 u tf38 m0 ar u (mv u ?_)))))
   obtain⟨ac,cA,cB⟩:=ob aT
   refine li underlying38 tf89 (SliceAt.mono (((T.trans I).trans Y).trans J) ay) cA fun cC cD eM cE cF=>?_
   obtain⟨cG,cH,cI,cJ,cK,cL,rfl,aU,eN,eO⟩:=cE
   have cM:AtK _ cC cD [V6 ac.Id,V3 cG cH cI,V3 cJ cK cL]:=cF
   refine fa ff89_0 u (lv (rv_load1 tf3 u ar (cM 0 _ u)) (av u (nr (lv (r_0 u) (nsr (lv (r_0 u) (nq ?_)))))))
   obtain⟨bl,cN,cO⟩:=ob cB
   refine wc_cutg (IW w K [] aa [(2,sv q2),(3,V3 G m n),(4,V6 q4),(6,pt o),(12,V3 U V W),(13,V6 y.2.1),(14,V3 q s x),(16,V6 y.2.2),(17,V6 ac.Id),(18,V6 bl)] [obj o [V3 C f i,V3 D k l] 41,tail (V3 q s x) 32 1] (rng64 bl)) ?_ ?_
   ·refine wc_block ?_
    obtain⟨eP,cP,cQ⟩:=ob cN
    refine qw (fun (au:Int×Int)=>IW w K [] aa [(2,sv q2),(3,V3 G m n),(4,V6 q4),(6,pt o),(12,V3 U V W),(13,V6 y.2.1),(14,V3 q s x),(16,V6 y.2.2),(17,V6 ac.Id),(18,V6 au.1),(19,V6 au.2)] [obj o [V3 C f i,V3 D k l] 41,tail (V3 q s x) 32 1] (rng64 au.1∧rng64 au.2)) cP ⟨aa,u,ar,kr,d_0,d_0⟩ ?_
    rintro au _ eQ eR cR cS ⟨cT,rfl,aF,aG,cU,eS⟩
    refine wc_seq (sr (mv u (mv u (lv (rv_len underlying22 u (SliceAt.mono ((((T.trans I).trans Y).trans J).trans aG) ak)) (lv (rv_lss u u) (nq (wcc cR u (fun cV aV=>?_) (fun cV aV=>?_))))))))
    ·refine wc_skip (qs (wc_block (wc_region (mv u (mv u (mv u ?_))))))
     obtain⟨eT,cW,cX⟩:=ob aV
     refine li underlying85 tf32 (cq.mono (J.trans aG)) cW fun cY cZ eU da db=>?_
     obtain⟨dc,dd,de,rfl,df⟩:=da
     have dg:AtK _ cY cZ [V3 dc dd de]:=db
     refine lv (rv_load1 tf32 u aF (dg 0 _ u)) (mv u ?_)
     obtain⟨eV,dh,di⟩:=ob cX
     refine lk co85 (ok_spec_l14Most F aF.enter0 df aU dh) ?_
     rintro eW eX ⟨dj,rfl,bm,eY⟩
     have dk:=(aF.c0 bm).t2
     refine lv (rv_add u u) (av u (nb (qe_seq (wc_region (mv u (lv (rv_add u u) (av u (wl_nil ?_))))))))
     cases oi di
     exact qd ⟨_,u,dj,u,dk,(aG.trans bm.le),(w64_rng _),(w64_rng _)⟩
    refine wc_exit (qe_then_exit (qe_then_exit ?_))
    cases oi aV
    cases cS _ u
    refine qe_block_eq ?_
    cases oi cQ
    exact qd ⟨cT,u,aF,aG,cU⟩
   rintro _ eZ ⟨aH,rfl,aI,O,fb⟩
   refine qs (wc_seq ?_)
   obtain⟨dl,dm,dn⟩:=ob cO
   refine wc_cutg (IV w K [] aH [(2,sv q2),(3,V3 G m n),(4,V6 q4),(6,pt o),(12,V3 U V W),(13,V6 y.2.1),(14,V3 q s x),(16,V6 y.2.2),(17,V6 ac.Id),(84,.bool dl)] [obj o [V3 C f i,V3 D k l] 41,tail (V3 q s x) 32 1]) ?_ ?_
   ·refine wc_region (mv u (lv (rv_eql u u) (mv u (bt dm (fun H aW=>?_) (fun H aW=>?_)))))
    ·iterate 5 refine lu H ?_
     refine wl_un (uu u u) u (wl_un (uu u u) u (wl_un (uu u u) u (wl_un (uu u u) u (wl_un (uu u u) u (wl_un (uu u u) u (wl_un (uu u u) u (wl_un (uu u u) u (lu H (lv (p_t u H u) ?_)))))))))
     refine wl_nil ?_
     cases oi aW
     exact qd ⟨aH,u,aI,kr⟩
    refine lg H (rv_move u) (lg H (rv_len underlying51 u (ag.mono O)) (lg H (rv_move u) (lg H (rv_eql u u) (lg H (rv_move u) (bt aW (fun R aX=>?_) (fun R aX=>?_))))))
    ·refine lg R (rv_move u) (lg R (rv_move u) (lg R (rv_move u) (lg R (rv_sub u u) ?_)))
     obtain⟨bn,dp,dq⟩:=ob aX
     refine wl_indexAddr (t:=tGHit) (wg u u R) u underlying51 tf92 u u (ag.mono O) dp fun dr dt fc du dv=>?_
     obtain⟨rfl,fd,fe⟩:=du
     have dw:AtK _ dr dt [V6 bn.Doc,V6 bn.Points]:=dv
     refine lg R (rv_fieldAddr ff92_1 u) (lg R (rv_load1 tf3 u aI (dw 1 _ u)) (lg R (rv_leq u u) (lg H (rv_pick_t u R u) (lv (rv_pick_f u H u) (wl_nil ?_)))))
     cases oi dq
     exact qd ⟨aH,u,aI,kr⟩
    iterate 8 refine lu R ?_
    refine lg H (p_f u R u) (lv (rv_pick_f u H u) (wl_nil ?_))
    cases oi aX
    exact qd ⟨aH,u,aI,kr⟩
   rintro _ fg ⟨aJ,rfl,bo,X⟩
   refine qe_seq (wcc dn u (fun dx aY=>?_) (fun dx aY=>?_))
   ·refine wc_exit (qe_then_exit (qe_block_eq (qe_seq (wc_region (mv u (lv (rv_add u u) (av u (wl_nil ?_))))))))
    cases oi aY
    exact qd ⟨_,u,U,V,W,aJ,u,bo,((J.trans O).trans X),(ag.mono (O.trans X)),bk,(w64_rng _)⟩
   refine wc_skip (qr (mv u (lv (rv_add u u) (av u (nr (mv u (lv (rv_build (cs:=#[V6 ac.Id,V6 0]) sp92 tf92 u (by kernel_rfl)) (al tf92 bo fun ah fh dy=>?_))))))))
   have dz:SH _ _ _ _ _ [obj ah [V6 0,V6 0] 92,_,_]:=dy
   refine lw [V6 ac.Id,V6 0] tf92 dz fun fi dA=>(nsr (lv (r_0 u) (nq ?_)))
   obtain⟨ai,dB,dC⟩:=ob aY
   refine wc_cutg (IW w K [] aJ [(2,sv q2),(3,V3 G m n),(4,V6 q4),(6,pt o),(12,V3 U V W),(13,V6 (w64 (y.2.1+(1:Int)))),(14,V3 q s x),(16,V6 y.2.2),(20,pt ah)] [obj o [V3 C f i,V3 D k l] 41,obj ah [V6 ai.Doc,V6 ai.Points] 92,tail (V3 q s x) 32 1] (rng64 ai.Doc∧rng64 ai.Points)) ?_ ?_
   ·refine wc_block ?_
    obtain⟨fj,dD,dE⟩:=ob dB
    refine qw (fun (S:Int×GHit)=>IW w K [] aJ [(2,sv q2),(3,V3 G m n),(4,V6 q4),(6,pt o),(12,V3 U V W),(13,V6 (w64 (y.2.1+(1:Int)))),(14,V3 q s x),(16,V6 y.2.2),(17,V6 ac.Id),(20,pt ah),(21,V6 S.1)] [obj o [V3 C f i,V3 D k l] 41,obj ah [V6 S.2.Doc,V6 S.2.Points] 92,tail (V3 q s x) 32 1] (rng64 S.1∧rng64 S.2.Doc∧rng64 S.2.Points)) dD ⟨aJ,u,dA.f2.f1.f2,kr,d_0,aU,d_0⟩ ?_
    rintro S _ fk fm dF dG ⟨bp,rfl,bq,aj,fn,br,dH⟩
    refine wc_seq (sr (mv u (mv u (lv (rv_len underlying22 u (SliceAt.mono ((((((T.trans I).trans Y).trans J).trans O).trans X).trans aj) ak)) (lv (rv_lss u u) (nq (wcc dF u (fun dI aZ=>?_) (fun dI aZ=>?_))))))))
    ·refine wc_skip (qs (wc_block ?_))
     have aw:=bq.drew
     refine wh1 (fun w'=>Holds bp w'∧HasObj o [V3 C f i,V3 D k l] w') (fun w'=>HasObj ah [V6 S.2.Doc,V6 S.2.Points] w') 12 [(1,10),(1,11),(1,12),(10,11),(10,12),(11,12)] mixed ⟨aw.hasK kr,aw.hasObj m0⟩ (fun _=>aw.hasObj (.tail _ (.head _))) (gt (rv_fieldAddr ff92_1 u) (gf (fun _ h=>rh_loadm1 tf3 u u h) (gh (fun _ h=>rh_loadmS (ds:=[V3 C f i,V3 D k l]) tf41 u u u h.2) (gt (rv_move u) (gt (rv_move u) (gt (rv_move u) ?_))))))
     obtain⟨dJ,dK,dL⟩:=ob aZ
     refine gi underlying22 tf9 (SliceAt.mono ((((((T.trans I).trans Y).trans J).trans O).trans X).trans aj) ak) dK fun dM dN fo dO dP=>?_
     obtain⟨rfl,dQ⟩:=dO
     have dR:AtK _ dM dN [sv dJ]:=dP
     refine gh (fun _ h=>rh_load1 tf9 u (dR 0 _ u) h.1) (gt (rv_move u) (gn ?_))
     obtain⟨bs,dS,dT⟩:=ob dL
     refine lk co67 (ok_spec_l12Points F aw.enter0 (SliceAt.mono ((((((T.trans I).trans Y).trans J).trans O).trans X).trans aj) ay) (SliceAt.mono ((((((T.trans I).trans Y).trans J).trans O).trans X).trans aj) bc) bd dQ aU dS) ?_
     rintro fp fq ⟨dU,rfl,aK,fr⟩
     have aL:=(aw.c0 aK).t3
     refine wl_nil (qh ⟨aL.hasK aK.le,aL.hasObj m0⟩ (fun _=>aL.hasObj (.tail _ (.head _))) (gt (rv_add u u) (gt (rv_fieldAddr ff92_1 u) (gn (ls [V6 S.2.Doc,V6 (w64 (S.2.Points+bs))] (V6 (w64 (S.2.Points+bs))) tf3 aL.f1 fun fs ba=>(wl_nil (qh ⟨ba.hasK aK.le,ba.hasObj m1⟩ (fun h=>nomatch h) (gd' (qe_block (qe_seq (wc_region ?_)))))))))))
     refine mv u (lv (rv_add u u) (av u (wl_nil ?_)))
     cases oi dT
     exact qd ⟨_,u,dU,u,ba.f2.f1.f2,(aj.trans aK.le),(w64_rng _),br,(w64_rng _)⟩
    refine wc_exit (qe_then_exit (qe_then_exit ?_))
    cases oi aZ
    cases dG _ u
    refine qe_block_eq ?_
    cases oi dE
    exact qd ⟨bp,u,bq,aj,br,dH⟩
   rintro _ ft ⟨dV,rfl,ax,aM,dW,dX⟩
   refine qr (fl ff92_1 u tf3 m1 ax u (lv (rv_gtr u u) (nq (wcc dC u (fun dY bb=>?_) (fun dY bb=>?_)))))
   ·refine wc_region (mv u (lv (rv_loadmS (ds:=[V6 ai.Doc,V6 ai.Points]) tf92 u m1 ax u u) (mv u ?_)))
    obtain⟨fu,dZ,ea⟩:=ob bb
    refine lk co86 (ok_spec_l13Push F ax.enter0 (ag.mono ((O.trans X).trans aM)) dW dX bv dZ) ?_
    rintro fv fw ⟨eb,ec,ed,ee,rfl,bu,ef⟩
    have eg:=(ax.c0 bu).t3
    refine av u (nb (qe_seq (wc_region (mv u (lv (rv_add u u) (av u (wl_nil ?_)))))))
    cases oi ea
    exact qd ⟨_,u,eb,ec,ed,ee,u,eg.s,((((J.trans O).trans X).trans aM).trans bu.le),ef,(w64_rng _),(w64_rng _)⟩
   refine wc_skip (qe_block (qe_seq (wc_region (mv u (lv (rv_add u u) (av u (wl_nil ?_)))))))
   cases oi bb
   exact qd ⟨_,u,U,V,W,dV,u,ax.s,(((J.trans O).trans X).trans aM),(ag.mono ((O.trans X).trans aM)),(w64_rng _),(w64_rng _)⟩
  refine wc_exit (qe_then_exit (qe_then_exit ?_))
  cases oi aT
  cases cy _ u
  refine qe_block_eq ?_
  cases oi cv
  exact qd ⟨U,V,W,aa,u,ar.s,J,ag,bk⟩
 rintro _ fx ⟨aC,aD,aE,aq,rfl,eh,fy,ei,ej⟩
 refine qr (mv u (mv u (av u (av u (nq (wc_ret ?_))))))
 cases oi ct
 exact qe_ret (vs:=[_,_]) results49 ⟨u,u,trivial⟩ ⟨aC,aD,aE,aq,u,eh,ei,ej⟩

theorem ok_impl_TermOf {q0:GConf}{q1:Str}{r:Str}(hS:SH w K [] w K [])(C:SliceAt tStr K A a b q0.Stops)(D:SliceAt tGSyn K B c d q0.Syns)(o:q1.length≤maxLen)(hm:M.impl_TermOf F q0 q1=some r):
  Calls prog 52 #[.agg #[V3 A a b,V3 B c d],sv q1] w fun e w'=>∃K',e= .returned (sv r)∧SH w K [] w' K' []∧r.length≤maxLen:=by
 rw [M.impl_TermOf] at hm
 refine ci func52 u ntmps52 (sr (bx u hS fun G af H=>?_))
 have q:SH _ _ _ _ _ [obj G [V3 A a b,V3 B c d] 36]:=H
 refine lv (r_s u) (nsr (mv u ?_))
 obtain⟨ag,I,J⟩:=ob hm
 refine lk co50 (ok_impl_WordOk F q.enter0 o I) ?_
 rintro ah ai ⟨O,rfl,i⟩
 have f:=(q.c0 i).t1
 refine lv (rv_not u) (nq (wcc J u (fun R k=>?_) (fun R k=>?_)))
 ·refine sr (lv (r_s u) (nq (rr ?_)))
  cases oi k
  exact ey results52 ⟨O,u,f.s,(by decide :([]:Str).length≤maxLen)⟩
 refine wc_skip (qr (lv (rv_loadmS (ds:=[V3 A a b,V3 B c d]) tf36 u m0 f u u) (mv u ?_)))
 obtain⟨aj,S,T⟩:=ob k
 refine lk co88 (ok_impl_TermsOf F f.enter0 (C.mono i.le) (D.mono i.le) o S) ?_
 rintro ak al ⟨am,an,ao,s,rfl,U,x⟩
 have l:=(f.c0 U).t2
 refine av u (nsr (mv u (lv (rv_len underlying133 u x) (lv (rv_eql u u) (nq (wcc T u (fun V m=>?_) (fun V m=>?_)))))))
 ·refine sr (lv (r_s u) (nq (rr ?_)))
  cases oi m
  exact ey results52 ⟨s,u,l.s,(by decide :([]:Str).length≤maxLen)⟩
 refine wc_skip (qr (mv u ?_))
 obtain⟨y,W,X⟩:=ob m
 refine li underlying133 tf136 x W fun Y aa ap ab ac=>?_
 obtain⟨rfl,ad,aq⟩:=ab
 have ae:AtK _ Y aa [sv y.Text,V6 y.At]:=ac
 refine fa ff136_0 u (lv (rv_load1 tf9 u l (ae 0 _ u)) (av u (nq (wc_ret ?_))))
 cases oi X
 exact ey results52 ⟨s,u,l.s,ad⟩
end Go.Proofs.YtfiahfncijjliaaGreatDoor
