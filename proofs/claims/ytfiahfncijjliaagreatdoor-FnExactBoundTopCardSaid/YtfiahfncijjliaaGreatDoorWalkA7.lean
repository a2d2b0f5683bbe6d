/-
 Walks of the functions. Printed by gen.py.
-/
import Derived.Test.YtfiahfncijjliaaGreatDoorWalkA0
import Derived.Test.YtfiahfncijjliaaGreatDoorWalkA1
import Derived.Test.YtfiahfncijjliaaGreatDoorWalkA2
import Derived.Test.YtfiahfncijjliaaGreatDoorWalkA3
set_option linter.unusedVariables false
set_option linter.unusedSectionVars false
set_option maxRecDepth 100000
namespace Go.Proofs.YtfiahfncijjliaaGreatDoor
set_option maxHeartbeats 4000000
open Go Go.Fk Go.RowKit Tryz
variable (F:Nat){w:World}{K:KMap}{Z:List Nat}{g1 g2 g3:Nat}{A B C D G H I J O R S T:Option Addr}{a b c d f i k l m n o p q s v x y aa ab ac ad ae af ag:Nat}
variable [dr:Dr]

theorem ok_laws_eqSeg {q0:GSeg}{q1:GSeg}{r:Bool}(hS:SH w K [] w K [])(H:SliceAt tGDoc K A a b q0.Docs)(I:SliceAt tGEntry K B c d q0.Entries)(J:SliceAt tGDoc K C f i q1.Docs)(O:SliceAt tGEntry K D k l q1.Entries)(hm:M.laws_eqSeg F q0 q1=some r):
  Calls prog 13 #[.agg #[V3 A a b,V3 B c d],.agg #[V3 C f i,V3 D k l]] w (R_b w K r):=by
 rw [M.laws_eqSeg] at hm
 refine ci func13 u ntmps13 (sr (bx u hS fun R af S=>?_))
 have T:SH _ _ _ _ _ [obj R [V3 A a b,V3 B c d] 41]:=S
 refine bx u T fun U ag V=>?_
 have o:SH _ _ _ _ _ [obj U [V3 C f i,V3 D k l] 41,_]:=V
 refine lv (r_f u) (nsr (fl ff41_0 u tf38 m1 o u (fl ff41_0 u tf38 m0 o u ?_)))
 obtain⟨ah,W,X⟩:=ob hm
 refine lk co39 (ok_laws_eqDocS F o.enter0 H J W) ?_
 rintro ai aj ⟨Y,rfl,q⟩
 have m:=(o.c0 q).t2
 refine lv (rv_not u) (nq (wcc X u (fun aa s=>?_) (fun aa s=>?_)))
 ·refine sr (lv (r_f u) (nq (rr ?_)))
  cases oi s
  exact ey results13 ⟨Y,u,m.s⟩
 refine wc_skip (qs (sr (fl ff41_1 u tf39 m1 m u (fl ff41_1 u tf39 m0 m u ?_))))
 obtain⟨ak,ab,ac⟩:=ob s
 refine lk co40 (ok_laws_eqEntryS F m.enter0 (I.mono q.le) (O.mono q.le) ab) ?_
 rintro al am ⟨y,rfl,ad⟩
 have G:=(m.c0 ad).t2
 refine lv (rv_not u) (nq (wcc ac u (fun ae x=>?_) (fun ae x=>?_)))
 ·refine sr (lv (r_f u) (nq (rr ?_)))
  cases oi x
  exact ey results13 ⟨y,u,G.s⟩
 refine wc_skip (qr (lv (r_t u) (nq (wc_ret ?_))))
 cases oi x
 exact ey results13 ⟨y,u,G.s⟩

theorem ok_spec_l7Terms {q0:GConf}{q1:List GDoc}{q2:Str}{r:(List Str)}(hS:SH w K [] w K [])(aC:SliceAt tStr K A a b q0.Stops)(aD:SliceAt tGSyn K B c d q0.Syns)(ak:SliceAt tGDoc K C f i q1)(aE:q2.length≤maxLen)(hm:M.spec_l7Terms F q0 q1 q2=some r):
  Calls prog 103 #[.agg #[V3 A a b,V3 B c d],V3 C f i,sv q2] w fun e w'=>∃a_1 n_2 c_3 K',e= .returned (V3 a_1 n_2 c_3)∧SH w K [] w' K' [tail (V3 a_1 n_2 c_3) 9 1]∧SliceAt tStr K' a_1 n_2 c_3 r:=by
 rw [M.spec_l7Terms] at hm
 refine ci func103 u ntmps103 (sr (bx u hS fun k bS aF=>?_))
 have aG:SH _ _ _ _ _ [obj k [V3 A a b,V3 B c d] 36]:=aF
 refine lv (r_n u) (nr (b0 tStr underlying22 tf9 aG fun aH bT ae X aI aJ=>(av u (nsr (lv (r_0 u) (nq ?_))))))
 obtain⟨aK,aL,aM⟩:=ob hm
 refine wc_cutg (fun E' w'=>∃D G H I,E'=[(7,V3 D G H)]∧SH w K [] w' I [tail (V3 D G H) 9 1]∧KLe ae I∧SliceAt tStr I D G H aK) ?_ ?_
 ·refine wc_block ?_
  obtain⟨bU,aN,aO⟩:=ob aL
  refine qw (fun (m:(List Str)×Int) E' w'=>∃o q s x,E'=[(1,V3 C f i),(2,sv q2),(3,pt k),(7,V3 o q s),(8,V6 m.2)]∧SH w K [] w' x [obj k [V3 A a b,V3 B c d] 36,tail (V3 o q s) 9 1]∧KLe ae x∧SliceAt tStr x o q s m.1∧rng64 m.2) aN ⟨aH,0,0,ae,u,aJ.f1,kr,aI,d_0⟩ ?_
  rintro m _ bV bW aP aQ ⟨o,q,s,x,rfl,al,y,am,bX⟩
  refine wc_seq (sr (mv u (mv u (lv (rv_len underlying38 u (ak.mono (X.trans y))) (lv (rv_lss u u) (nq (wcc aP u (fun aR af=>?_) (fun aR af=>?_))))))))
  ·refine wc_skip (qs (wc_block (wc_seq ?_)))
   have Y:=al.drew
   refine wh1 (fun w'=>Holds x w'∧HasObj k [V3 A a b,V3 B c d] w') (fun w'=>True) 9 [] mixed ⟨Y.hasK kr,Y.hasObj m0⟩ (fun _=>trivial) (gh (fun _ h=>rh_loadmS (ds:=[V3 A a b,V3 B c d]) tf36 u u u h.2) (gt (rv_move u) (gt (rv_move u) ?_)))
   obtain⟨an,aS,aT⟩:=ob af
   refine gi underlying38 tf89 (ak.mono (X.trans y)) aS fun aU aV bY aW aX=>?_
   obtain⟨ao,ap,aq,ar,au,aw,rfl,aY,aZ,ba⟩:=aW
   have bb:AtK _ aU aV [V6 an.Id,V3 ao ap aq,V3 ar au aw]:=aX
   refine gh (fun _ h=>rh_loadS (cs:=[V6 an.Id,V3 ao ap aq,V3 ar au aw]) tf89 u bb u h.1) (gt (rv_move u) (gn ?_))
   obtain⟨bZ,bc,bd⟩:=ob aT
   refine lk co149 (ok_spec_l6Field F Y.enter0 aY aZ ba aE bc) ?_
   rintro ca cb ⟨cc,rfl,l,be⟩
   have aa:=(Y.c0 l).t2
   refine wl_nil (qh ⟨aa.hasK l.le,aa.hasObj m0⟩ (fun _=>trivial) (gn ?_))
   obtain⟨cd,bf,bg⟩:=ob bd
   refine lk co84 (ok_spec_l2Terms F aa.enter0 (aC.mono ((X.trans y).trans l.le)) (aD.mono ((X.trans y).trans l.le)) be bf) ?_
   rintro ce cf ⟨bh,bi,bj,ag,rfl,ab,ax⟩
   have ah:=(aa.c0 ab).t3
   refine wl_nil (qh ⟨ah.hasK (l.le.trans ab.le),ah.hasObj m1⟩ (fun _=>trivial) (gt (rv_assign u) (gd' (qr (lv (r_0 u) (nq ?_))))))
   obtain⟨bk,bl,bm⟩:=ob bg
   refine wc_cutg (fun E' w'=>∃J O R S,E'=[(1,V3 C f i),(2,sv q2),(3,pt k),(7,V3 J O R),(8,V6 m.2)]∧SH w K [] w' S [obj k [V3 A a b,V3 B c d] 36,tail (V3 J O R) 9 1]∧KLe ag S∧SliceAt tStr S J O R bk) ?_ ?_
   ·refine wc_block ?_
    obtain⟨cg,bn,bo⟩:=ob bl
    have bp:=ah.sb (sd (sk (sk sz)))
    refine qw (fun (ac:(List Str)×Int) E' w'=>∃T U V W,E'=[(1,V3 C f i),(2,sv q2),(3,pt k),(7,V3 T U V),(8,V6 m.2),(9,V3 bh bi bj),(10,V6 ac.2)]∧SH w K [] w' W [obj k [V3 A a b,V3 B c d] 36,tail (V3 T U V) 9 1]∧KLe ag W∧SliceAt tStr W T U V ac.1∧rng64 ac.2) bn ⟨o,q,s,ag,u,bp,kr,(am.mono (l.le.trans ab.le)),d_0⟩ ?_
    rintro ac _ ch cj bq br ⟨T,U,V,W,rfl,ai,ad,ay,ck⟩
    refine wc_seq (sr (mv u (mv u (lv (rv_len underlying133 u (ax.mono ad)) (lv (rv_lss u u) (nq (wcc bq u (fun bs aj=>?_) (fun bs aj=>?_))))))))
    ·refine wc_skip (qs (wc_block (wc_region (mv u (mv u (mv u ?_))))))
     obtain⟨az,bu,bv⟩:=ob aj
     refine li underlying133 tf136 (ax.mono ad) bu fun bz bA cl bB bC=>?_
     obtain⟨rfl,bD,cm⟩:=bB
     have bE:AtK _ bz bA [sv az.Text,V6 az.At]:=bC
     refine fa ff136_0 u (lv (rv_load1 tf9 u ai (bE 0 _ u)) ?_)
     obtain⟨cn,bF,bG⟩:=ob bv
     have aA:=ai.f1
     refine lk co148 (ok_spec_l7Put F aA.e1 ay bD bF) ?_
     rintro cp cq ⟨bH,bI,bJ,bK,rfl,aB,bL⟩
     have bM:=(aA.c1 aB).t2
     refine av u (nb (qe_seq (wc_region (mv u (lv (rv_add u u) (av u (wl_nil ?_)))))))
     cases oi bG
     exact qd ⟨_,u,bH,bI,bJ,bK,u,bM.f1,(ad.trans aB.le),bL,(w64_rng _)⟩
    refine wc_exit (qe_then_exit (qe_then_exit ?_))
    cases oi aj
    cases br _ u
    refine qe_block_eq ?_
    cases oi bo
    exact qd ⟨T,U,V,W,u,ai,ad,ay⟩
   rintro _ cr ⟨J,O,R,S,rfl,bN,bO,bP⟩
   refine qe_block (qe_seq (wc_region (mv u (lv (rv_add u u) (av u (wl_nil ?_))))))
   cases oi bm
   exact qd ⟨_,u,J,O,R,S,u,bN,(((y.trans l.le).trans ab.le).trans bO),bP,(w64_rng _)⟩
  refine wc_exit (qe_then_exit (qe_then_exit ?_))
  cases oi af
  cases aQ _ u
  refine qe_block_eq ?_
  cases oi aO
  exact qd ⟨o,q,s,x,u,al.s,y,am⟩
 rintro _ ct ⟨D,G,H,I,rfl,bQ,cu,bR⟩
 refine qr (mv u (av u (nq (wc_ret ?_))))
 cases oi aM
 exact ey results103 ⟨D,G,H,I,u,bQ,bR⟩

theorem ok_spec_l7Post {q0:GConf}{q1:GDoc}{q2:Str}{q3:Str}{r:(List Int)}(hS:SH w K [] w K [])(ai:SliceAt tStr K A a b q0.Stops)(aj:SliceAt tGSyn K B c d q0.Syns)(ak:rng64 q1.Id)(al:SliceAt tGField K C f i q1.Fields)(am:SliceAt tGAttr K D k l q1.Nums)(an:q2.length≤maxLen)(bu:q3.length≤maxLen)(hm:M.spec_l7Post F q0 q1 q2 q3=some r):
  Calls prog 150 #[.agg #[V3 A a b,V3 B c d],.agg #[V6 q1.Id,V3 C f i,V3 D k l],sv q2,sv q3] w fun e w'=>∃a_1 n_2 c_3 K',e= .returned (V3 a_1 n_2 c_3)∧SH w K [] w' K' [tail (V3 a_1 n_2 c_3) 3 1]∧SliceAt tInt K' a_1 n_2 c_3 r:=by
 rw [M.spec_l7Post] at hm
 refine ci func150 u ntmps150 (sr (bx u hS fun ae bv ao=>?_))
 have ap:SH _ _ _ _ _ [obj ae [V3 A a b,V3 B c d] 36]:=ao
 refine bx u ap fun af bz aq=>?_
 have ar:SH _ _ _ _ _ [obj af [V6 q1.Id,V3 C f i,V3 D k l] 89,_]:=aq
 refine lv (r_n u) (nr (b0 tInt underlying117 tf3 ar fun au bA aw U ax ay=>(av u (ns ?_))))
 have G:=ay.drew
 refine wh1 (fun w'=>Holds aw w'∧HasObj ae [V3 A a b,V3 B c d] w'∧HasObj af [V6 q1.Id,V3 C f i,V3 D k l] w') (fun w'=>True) 6 [] mixed ⟨G.hasK kr,G.hasObj m2,G.hasObj m1⟩ (fun _=>trivial) (gh (fun _ h=>rh_loadmS (ds:=[V3 A a b,V3 B c d]) tf36 u u u h.2.1) (gh (fun _ h=>rh_loadmS (ds:=[V6 q1.Id,V3 C f i,V3 D k l]) tf89 u u u h.2.2) (gt (rv_move u) (gn ?_))))
 obtain⟨bB,az,aA⟩:=ob hm
 refine lk co149 (ok_spec_l6Field F G.enter0 ak (al.mono U) (am.mono U) an az) ?_
 rintro bC bD ⟨bE,rfl,m,aB⟩
 have H:=(G.c0 m).t3
 refine wl_nil (qh ⟨H.hasK m.le,H.hasObj m2,H.hasObj m1⟩ (fun _=>trivial) (gn ?_))
 obtain⟨bF,aC,aD⟩:=ob aA
 refine lk co84 (ok_spec_l2Terms F H.enter0 (ai.mono (U.trans m.le)) (aj.mono (U.trans m.le)) aB aC) ?_
 rintro bG bH ⟨aE,aF,aG,X,rfl,Y,aa⟩
 have V:=(H.c0 Y).t4
 refine wl_nil (qh ⟨V.hasK (m.le.trans Y.le),V.hasObj m3,V.hasObj m2⟩ (fun _=>trivial) (gt (rv_assign u) (gd' (qs (sr (lv (r_0 u) (nq ?_)))))))
 obtain⟨aH,aI,aJ⟩:=ob aD
 refine wc_cutg (fun E' w'=>∃I J O R,E'=[(9,V3 I J O)]∧SH w K [] w' R [tail (V3 I J O) 3 1]∧KLe X R∧SliceAt tInt R I J O aH) ?_ ?_
 ·refine wc_block ?_
  obtain⟨bI,aK,aL⟩:=ob aI
  have aM:=V.sb (sd (sk (sd (sd sz))))
  refine qw (fun (W:(List Int)×Int) E' w'=>∃o q s x,E'=[(3,sv q3),(9,V3 o q s),(10,V3 aE aF aG),(11,V6 W.2)]∧SH w K [] w' x [tail (V3 o q s) 3 1]∧KLe X x∧SliceAt tInt x o q s W.1∧rng64 W.2) aK ⟨au,0,0,X,u,aM,kr,(ax.mono (m.le.trans Y.le)),d_0⟩ ?_
  rintro W _ bJ bK aN aO ⟨o,q,s,x,rfl,S,y,ab,bL⟩
  refine wc_seq (sr (mv u (mv u (lv (rv_len underlying133 u (aa.mono y)) (lv (rv_lss u u) (nq (wcc aN u (fun aP ac=>?_) (fun aP ac=>?_))))))))
  ·refine wc_skip (qs (wc_block (sr (mv u (mv u ?_)))))
   obtain⟨ag,aQ,aR⟩:=ob ac
   refine li underlying133 tf136 (aa.mono y) aQ fun aS aT bM aU aV=>?_
   obtain⟨rfl,bN,bO⟩:=aU
   have aW:AtK _ aS aT [sv ag.Text,V6 ag.At]:=aV
   refine fa ff136_0 u (lv (rv_load1 tf9 u S (aW 0 _ u)) (mv u (lv (rv_seql u u) (nq (wcc aR u (fun aX ad=>?_) (fun aX ad=>?_))))))
   ·refine wc_region (mv u (mv u (mv u ?_)))
    obtain⟨T,aY,aZ⟩:=ob ad
    refine li underlying133 tf136 (aa.mono y) aY fun ba bb bP bc bd=>?_
    obtain⟨rfl,bQ,be⟩:=bc
    have bf:AtK _ ba bb [sv T.Text,V6 T.At]:=bd
    refine fa ff136_1 u (lv (rv_load1 tf3 u S (bf 1 _ u)) (lb tInt (V6 T.At) [V6 T.At] T.At underlying117 tf3 ⟨u,be⟩ S fun bR bS bT ah bg bh=>?_))
    obtain⟨bU,bi,bj⟩:=ob aZ
    refine lp underlying117 tf3 (ab.mono ah) bg bi bh.f1 fun bk bl bm bV bn bo bp bq=>(av u (nb (qe_seq (wc_region (mv u (lv (rv_add u u) (av u (wl_nil ?_))))))))
    cases oi bj
    exact qd ⟨_,u,bk,bl,bm,bn,u,bq.s,((y.trans ah).trans bo),bp,(w64_rng _)⟩
   refine wc_skip (qe_block (qe_seq (wc_region (mv u (lv (rv_add u u) (av u (wl_nil ?_)))))))
   cases oi ad
   exact qd ⟨_,u,o,q,s,x,u,S,y,ab,(w64_rng _)⟩
  refine wc_exit (qe_then_exit (qe_then_exit ?_))
  cases oi ac
  cases aO _ u
  refine qe_block_eq ?_
  cases oi aL
  exact qd ⟨o,q,s,x,u,S,y,ab⟩
 rintro _ bW ⟨I,J,O,R,rfl,br,bX,bs⟩
 refine qr (mv u (av u (nq (wc_ret ?_))))
 cases oi aJ
 exact ey results150 ⟨I,J,O,R,u,br,bs⟩

theorem ok_spec_l7Entry {q0:GConf}{q1:List GDoc}{q2:Str}{q3:Str}{r:GEntry}(hS:SH w K [] w K [])(aG:SliceAt tStr K A a b q0.Stops)(aH:SliceAt tGSyn K B c d q0.Syns)(aa:SliceAt tGDoc K C f i q1)(ao:q2.length≤maxLen)(ap:q3.length≤maxLen)(hm:M.spec_l7Entry F q0 q1 q2 q3=some r):
  Calls prog 104 #[.agg #[V3 A a b,V3 B c d],V3 C f i,sv q2,sv q3] w fun e w'=>∃a_3 n_4 c_5 K',e= .returned (.agg #[sv r.Field,sv r.Term,V3 a_3 n_4 c_5])∧SH w K [] w' K' [tail (V3 a_3 n_4 c_5) 119 2]∧r.Field.length≤maxLen∧r.Term.length≤maxLen∧SliceAt tGPost K' a_3 n_4 c_5 r.Posts:=by
 rw [M.spec_l7Entry] at hm
 refine ci func104 u ntmps104 (sr (bx u hS fun T bL aI=>?_))
 have aJ:SH _ _ _ _ _ [obj T [V3 A a b,V3 B c d] 36]:=aI
 refine al tf114 aJ fun J bM aK=>?_
 have aL:SH _ _ _ _ _ [obj J [sv [],sv [],V3 none 0 0] 114,_]:=aK
 refine nr (mv u (mv u (lv (rv_build (cs:=#[sv q2,sv q3,V3 none 0 0]) sp114 tf114 u (by kernel_rfl)) (al tf114 aL fun H bN aM=>?_))))
 have aN:SH _ _ _ _ _ [obj H [sv [],sv [],V3 none 0 0] 114,_,_]:=aM
 refine lw [sv q2,sv q3,V3 none 0 0] tf114 aN fun bO aO=>(nsr (lv (r_0 u) (nq ?_)))
 obtain⟨l,aP,aQ⟩:=ob hm
 refine wc_cutg (fun E' w'=>∃o q s O,E'=[(8,pt J),(9,pt H)]∧SH w K [] w' O [obj J [sv [],sv [],V3 none 0 0] 114,obj H [sv l.Field,sv l.Term,V3 o q s] 114,tail (V3 o q s) 119 2]∧KLe K O∧l.Field.length≤maxLen∧l.Term.length≤maxLen∧SliceAt tGPost O o q s l.Posts) ?_ ?_
 ·refine wc_block ?_
  obtain⟨bP,aR,aS⟩:=ob aP
  have aT:=aO.nil 119 2
  refine qw (fun (k:Int×GEntry) E' w'=>∃x y D I,E'=[(1,V3 C f i),(2,sv q2),(3,sv q3),(4,pt T),(8,pt J),(9,pt H),(10,V6 k.1)]∧SH w K [] w' I [obj T [V3 A a b,V3 B c d] 36,obj J [sv [],sv [],V3 none 0 0] 114,obj H [sv k.2.Field,sv k.2.Term,V3 x y D] 114,tail (V3 x y D) 119 2]∧KLe K I∧rng64 k.1∧k.2.Field.length≤maxLen∧k.2.Term.length≤maxLen∧SliceAt tGPost I x y D k.2.Posts) aR ⟨none,0,0,K,u,aT.f1.f2.f3,kr,d_0,ao,ap,(SliceAt.nil _ _)⟩ ?_
  rintro k _ bQ bR aU aV ⟨x,y,D,I,rfl,aq,m,bS,ab,ac,ad⟩
  refine wc_seq (sr (mv u (mv u (lv (rv_len underlying38 u (aa.mono m)) (lv (rv_lss u u) (nq (wcc aU u (fun aW ae=>?_) (fun aW ae=>?_))))))))
  ·refine wc_skip (qs (wc_block (wc_seq ?_)))
   have U:=aq.drew
   refine wh1 (fun w'=>Holds I w'∧HasObj T [V3 A a b,V3 B c d] w') (fun w'=>True) 9 [] mixed ⟨U.hasK kr,U.hasObj m0⟩ (fun _=>trivial) (gh (fun _ h=>rh_loadmS (ds:=[V3 A a b,V3 B c d]) tf36 u u u h.2) (gt (rv_move u) (gt (rv_move u) ?_)))
   obtain⟨ar,aX,aY⟩:=ob ae
   refine gi underlying38 tf89 (aa.mono m) aX fun aZ ba bT bb bc=>?_
   obtain⟨au,aw,ax,ay,az,aA,rfl,bd,be,bf⟩:=bb
   have bg:AtK _ aZ ba [V6 ar.Id,V3 au aw ax,V3 ay az aA]:=bc
   refine gh (fun _ h=>rh_loadS (cs:=[V6 ar.Id,V3 au aw ax,V3 ay az aA]) tf89 u bg u h.1) (gt (rv_move u) (gt (rv_move u) (gn ?_)))
   obtain⟨bh,bi,bj⟩:=ob aY
   refine lk co150 (ok_spec_l7Post F U.enter0 (aG.mono m) (aH.mono m) bd be bf ao ap bi) ?_
   rintro bU bV ⟨V,W,X,aB,rfl,G,aC⟩
   have Y:=(U.c0 G).t5
   refine wl_nil (qh ⟨Y.hasK G.le,Y.hasObj m1⟩ (fun _=>trivial) (gt (rv_assign u) (gd' (qr (mv u (lv (rv_len underlying117 u aC) (lv (rv_gtr u u) (nq (wcc bj u (fun bk af=>?_) (fun bk af=>?_))))))))))
   ·have ag:=Y.drew
    refine wh1 (fun w'=>Holds aB w') (fun w'=>HasObj H [sv k.2.Field,sv k.2.Term,V3 x y D] w') 12 [(1,10),(1,11),(1,12),(10,11),(10,12),(11,12)] mixed (ag.hasK kr) (fun _=>ag.hasObj (.tail _ (.tail _ (.tail _ (.head _))))) (gt (rv_fieldAddr ff114_2 u) (gf (fun _ h=>rh_loadm1 tf112 u u h) (gt (rv_move u) (gt (rv_move u) ?_))))
    obtain⟨R,bl,bm⟩:=ob af
    refine gi underlying38 tf89 (aa.mono (m.trans G.le)) bl fun bn bo bW bp bq=>?_
    obtain⟨br,bs,bu,bv,bz,bA,rfl,bB,bX,bY⟩:=bp
    have bC:AtK _ bn bo [V6 R.Id,V3 br bs bu,V3 bv bz bA]:=bq
    refine gt (rv_fieldAddr ff89_0 u) (gh (fun _ h=>rh_load1 tf3 u (bC 0 _ u) h) (gt (rv_move u) (gt (rv_build (cs:=#[V6 R.Id,V3 V W X]) sp119 tf119 u (by kernel_rfl)) (gn (lb tGPost (.agg #[V6 R.Id,V3 V W X]) [V6 R.Id,V3 V W X] (GPost.mk R.Id bh) underlying112 tf119 ⟨V,W,X,u,bB,aC⟩ ag fun bZ ca cb S bD ah=>(wl_nil (qh (ah.hasK S) (fun _=>ah.hasObj (.tail _ (.tail _ (.tail _ (.tail _ (.head _)))))) (gn ?_))))))))
    obtain⟨cc,bE,bF⟩:=ob bm
    refine lp underlying112 tf119 (ad.mono (G.le.trans S)) bD bE ah.f5 fun ai aj ak cd bG am bH an=>(wl_nil (qh (an.hasK (S.trans am)) (fun _=>an.hasObj (.tail _ (.tail _ (.tail _ (.tail _ (.tail _ (.head _))))))) (gt (rv_fieldAddr ff114_2 u) (gn (ls [sv k.2.Field,sv k.2.Term,V3 ai aj ak] (V3 ai aj ak) tf112 an.f5 fun ce aD=>(wl_nil (qh (aD.hasK (S.trans am)) (fun h=>nomatch h) (gd' (qe_block (qe_seq (wc_region ?_)))))))))))
    refine mv u (lv (rv_add u u) (av u (wl_nil ?_)))
    cases oi bF
    exact qd ⟨_,u,ai,aj,ak,bG,u,aD.f1.f1.f5.f5.s,(((m.trans G.le).trans S).trans am),(w64_rng _),ab,ac,bH⟩
   refine wc_skip (qe_block (qe_seq (wc_region (mv u (lv (rv_add u u) (av u (wl_nil ?_)))))))
   cases oi af
   exact qd ⟨_,u,x,y,D,aB,u,Y.s,(m.trans G.le),(w64_rng _),ab,ac,(ad.mono G.le)⟩
  refine wc_exit (qe_then_exit (qe_then_exit ?_))
  cases oi ae
  cases aV _ u
  refine qe_block_eq ?_
  cases oi aS
  exact qd ⟨x,y,D,I,u,aq.s,m,ab,ac,ad⟩
 rintro _ cf ⟨o,q,s,O,rfl,aE,cg,bI,bJ,bK⟩
 refine qr (lv (rv_loadmS (ds:=[sv l.Field,sv l.Term,V3 o q s]) tf114 u m1 aE u u) (lw [sv l.Field,sv l.Term,V3 o q s] tf114 aE fun ch aF=>(nq (wc_ret ?_))))
 cases oi aQ
 exact ez results104 tf114 aF m0 ⟨o,q,s,O,u,aF.s,bI,bJ,bK⟩

end Go.Proofs.YtfiahfncijjliaaGreatDoor
