/-
 Walks of the functions. Printed by gen.py.
-/
import Derived.Test.YtfiahfncijjliaaGreatDoorFacts
set_option linter.unusedVariables false
set_option linter.unusedSectionVars false
set_option maxRecDepth 100000
namespace Go.Proofs.YtfiahfncijjliaaGreatDoor
set_option maxHeartbeats 4000000
open Go Go.Fk Go.RowKit Tryz
variable (F:Nat){w:World}{K:KMap}{Z:List Nat}{g1 g2 g3:Nat}{A B C D G H I J O R S T:Option Addr}{a b c d f i k l m n o p q s v x y aa ab ac ad ae af ag:Nat}
variable [dr:Dr]

theorem ok_spec_l7CopyDoc {q0:GDoc}{r:GDoc}(hS:SH w K [] w K [])(G:rng64 q0.Id)(H:SliceAt tGField K A a b q0.Fields)(I:SliceAt tGAttr K B c d q0.Nums)(hm:M.spec_l7CopyDoc F q0=some r):
  Calls prog 105 #[.agg #[V6 q0.Id,V3 A a b,V3 B c d]] w fun e w'=>∃a_2 n_3 c_4 a_6 n_7 c_8 K',e= .returned (.agg #[V6 r.Id,V3 a_2 n_3 c_4,V3 a_6 n_7 c_8])∧SH w K [] w' K' [tail (V3 a_2 n_3 c_4) 170 2,tail (V3 a_6 n_7 c_8) 183 2]∧rng64 r.Id∧SliceAt tGField K' a_2 n_3 c_4 r.Fields∧SliceAt tGAttr K' a_6 n_7 c_8 r.Nums:=by
 rw [M.spec_l7CopyDoc] at hm
 refine ci func105 u ntmps105 (sr (bx u hS fun aC aX aE=>?_))
 have aF:SH _ _ _ _ _ [obj aC [V6 q0.Id,V3 A a b,V3 B c d] 89]:=aE
 refine al tf89 aF fun aG aY aH=>?_
 have aI:SH _ _ _ _ _ [obj aG [V6 0,V3 none 0 0,V3 none 0 0] 89,_]:=aH
 refine ns ?_
 obtain⟨aZ,J,aJ⟩:=ob hm
 obtain⟨ba,O,R⟩:=ob aJ
 have v:=aI.drew
 refine j_0 (fun w'=>Holds K w'∧HasObj aC [V6 q0.Id,V3 A a b,V3 B c d] w') 12 [] mixed ⟨v.hasK kr,v.hasObj m1⟩ (jv 0 u (rv_fieldAddr ff89_0 u) (jh 1 u (fun _ h=>rh_loadm1 tf3 u u h.2) (jv 3 u (rv_fieldAddr ff89_1 u) (jh 4 u (fun _ h=>rh_loadm1 tf86 u u h.2) (jv 7 u (rv_fieldAddr ff89_2 u) (jh 8 u (fun _ h=>rh_loadm1 tf87 u u h.2) (j2 2 6 u u ?_ ?_)))))))
 ·refine b0 tGField underlying86 tf170 v fun bb bc bd f aD x=>(j_o ⟨x.hasK f,x.hasObj m2⟩ (j2 5 6 u u ?_ ?_))
  ·refine lp underlying86 tf170 aD (H.mono f) J x fun S T U be bf m aK V=>(j_o ⟨V.hasK (f.trans m),V.hasObj m2⟩ (j1 6 u (b0 tGAttr underlying87 tf183 V fun bg bh bi o aL W=>(j_o ⟨W.hasK ((f.trans m).trans o),W.hasObj m3⟩ (j1 9 u (lp underlying87 tf183 aL (I.mono ((f.trans m).trans o)) O W fun X Y aa bj aM ab aN ac=>(j_o ⟨ac.hasK (((f.trans m).trans o).trans ab),ac.hasObj m3⟩ (jv 10 u (rv_build (cs:=#[V6 q0.Id,V3 S T U,V3 X Y aa]) sp89 tf89 u (by kernel_rfl)) (j1 11 u ?_)))))))))
   refine lw [V6 q0.Id,V3 S T U,V3 X Y aa] tf89 ac.f2 fun bk y=>(j_o ⟨y.hasK (((f.trans m).trans o).trans ab),y.hasObj m3⟩ (jd (qe_seq (wc_ret ?_))))
   cases oi R
   exact ez results105 tf89 y m0 ⟨S,T,U,X,Y,aa,aM,u,y.f1.f2.s,G,(aK.mono (o.trans ab)),aN⟩
  refine b0 tGAttr underlying87 tf183 x fun bl bm bn i aO ad=>(j_o ⟨ad.hasK (f.trans i),ad.hasObj m3⟩ (j1 5 u (lp underlying86 tf170 (aD.mono i) (H.mono (f.trans i)) J ad.f1 fun ae af ag bo bp q aP ah=>(j_o ⟨ah.hasK ((f.trans i).trans q),ah.hasObj m3⟩ (j1 9 u (lp underlying87 tf183 (aO.mono q) (I.mono ((f.trans i).trans q)) O ah.f1 fun ai aj ak bq aQ am aR an=>(j_o ⟨an.hasK (((f.trans i).trans q).trans am),an.hasObj m3⟩ (jv 10 u (rv_build (cs:=#[V6 q0.Id,V3 ae af ag,V3 ai aj ak]) sp89 tf89 u (by kernel_rfl)) (j1 11 u ?_)))))))))
  refine lw [V6 q0.Id,V3 ae af ag,V3 ai aj ak] tf89 an.f2 fun br C=>(j_o ⟨C.hasK (((f.trans i).trans q).trans am),C.hasObj m3⟩ (jd (qe_seq (wc_ret ?_))))
  cases oi R
  exact ez results105 tf89 C m0 ⟨ae,af,ag,ai,aj,ak,aQ,u,C.f1.f2.s,G,(aP.mono am),aR⟩
 refine b0 tGAttr underlying87 tf183 v fun bs bu bv k aS ao=>(j_o ⟨ao.hasK k,ao.hasObj m2⟩ (j1 2 u (b0 tGField underlying86 tf170 ao fun bz bA bB l aT ap=>(j_o ⟨ap.hasK (k.trans l),ap.hasObj m3⟩ (j1 5 u (lp underlying86 tf170 aT (H.mono (k.trans l)) J ap fun aq ar au bC bD s aU aw=>(j_o ⟨aw.hasK ((k.trans l).trans s),aw.hasObj m3⟩ (j1 9 u (lp underlying87 tf183 (aS.mono (l.trans s)) (I.mono ((k.trans l).trans s)) O aw.f1 fun ax ay az bE aV aA aW aB=>?_)))))))))
 refine j_o ⟨aB.hasK (((k.trans l).trans s).trans aA),aB.hasObj m3⟩ (jv 10 u (rv_build (cs:=#[V6 q0.Id,V3 aq ar au,V3 ax ay az]) sp89 tf89 u (by kernel_rfl)) (j1 11 u (lw [V6 q0.Id,V3 aq ar au,V3 ax ay az] tf89 aB.f2 fun bF D=>(j_o ⟨D.hasK (((k.trans l).trans s).trans aA),D.hasObj m3⟩ (jd (qe_seq (wc_ret ?_)))))))
 cases oi R
 exact ez results105 tf89 D m0 ⟨aq,ar,au,ax,ay,az,aV,u,D.f1.f2.s,G,(aU.mono aA),aW⟩

theorem ok_spec_l7SameInts {q0:List Int}{q1:List Int}{r:Bool}(hS:SH w K [] w K [])(k:SliceAt tInt K A a b q0)(x:SliceAt tInt K B c d q1)(hm:M.spec_l7SameInts F q0 q1=some r):
  Calls prog 106 #[V3 A a b,V3 B c d] w (R_b w K r):=by
 rw [M.spec_l7SameInts] at hm
 refine ci func106 u ntmps106 (sr (lv (r_f u) (nsr (mv u (lv (rv_len underlying117 u k) (mv u (lv (rv_len underlying117 u x) (lv (rv_neq u u) (nq ?_)))))))))
 refine wc_cond u (fun l=>?_) (fun l=>?_)
 ·have m:=cond_t l hm
  refine sr (lv (r_f u) (nq (rr ?_)))
  cases oi m
  exact ey results106 ⟨K,u,hS⟩
 have m:=cond_f l hm
 refine wc_skip (qs (sr (lv (r_0 u) (nq ?_))))
 obtain⟨I,J,i⟩:=ob m
 refine wc_cutg (IE I w K [] K [] []) ?_ ?_
 ·refine wc_block ?_
  obtain⟨ap,O,y⟩:=ob J
  refine qw (fun (o:Int)=>IW w K [] K [(0,V3 A a b),(1,V3 B c d),(5,V6 o)] [] (rng64 o)) O ⟨K,u,hS,kr,d_0⟩ ?_
  rintro o _ aq ar R C ⟨S,rfl,D,f,au⟩
  refine wc_seq (sr (mv u (mv u (lv (rv_len underlying117 u (k.mono f)) (lv (rv_lss u u) (nq (wcc R u (fun T q=>?_) (fun T q=>?_))))))))
  ·refine wc_skip (qs (wc_block (wc_seq (wc_quiet mixed (by kernel_rfl) D (km u (km u ?_))))))
   obtain⟨U,V,W⟩:=ob q
   refine ki underlying117 tf3 (k.mono f) V fun X Y aw aa ab=>?_
   obtain⟨rfl,ax⟩:=aa
   have ac:AtK _ X Y [V6 U]:=ab
   refine kh (rq_load1 tf3 u (ac 0 _ u)) (km u (km u ?_))
   obtain⟨ad,ae,af⟩:=ob W
   refine ki underlying117 tf3 (x.mono f) ae fun ag ah ay ai aj=>?_
   obtain⟨rfl,az⟩:=ai
   have ak:AtK _ ag ah [V6 ad]:=aj
   refine kh (rq_load1 tf3 u (ak 0 _ u)) (kv (rv_neq u u) (wq_nil ?_))
   rintro aA ⟨G,H,al⟩
   refine qe_seq (wcc af u (fun am s=>?_) (fun am s=>?_))
   ·refine sr (lv (r_f u) (nq (wc_ret (qe_block_ret (qe_then_ret (qe_then_ret ?_))))))
    cases oi s
    cases C _ u
    refine qe_block_ret (qe_then_ret ?_)
    cases oi y
    refine qe_then_ret ?_
    cases oi i
    exact ey results106 ⟨G,u,H⟩
   refine wc_skip (qe_block (qe_seq (wc_region (mv u (lv (rv_add u u) (av u (wl_nil ?_)))))))
   cases oi s
   exact qd ⟨_,u,G,u,H,(f.trans al),(w64_rng _)⟩
  refine wc_exit (qe_then_exit (qe_then_exit ?_))
  cases oi q
  cases C _ u
  refine qe_block_eq ?_
  cases oi y
  exact qe_mid' ⟨_,S,u,u,D,f⟩ trivial
 rintro _ aB ⟨aC,an,rfl,rfl,ao,aD⟩
 have i:=elim_l i
 refine qr (lv (r_t u) (nq (wc_ret ?_)))
 cases oi i
 exact ey results106 ⟨an,u,ao⟩

theorem ok_spec_l7SameEntry {q0:GEntry}{q1:GEntry}{r:Bool}(hS:SH w K [] w K [])(bF:q0.Field.length≤maxLen)(bG:q0.Term.length≤maxLen)(x:SliceAt tGPost K A a b q0.Posts)(bH:q1.Field.length≤maxLen)(bI:q1.Term.length≤maxLen)(G:SliceAt tGPost K B c d q1.Posts)(hm:M.spec_l7SameEntry F q0 q1=some r):
  Calls prog 65 #[.agg #[sv q0.Field,sv q0.Term,V3 A a b],.agg #[sv q1.Field,sv q1.Term,V3 B c d]] w (R_b w K r):=by
 rw [M.spec_l7SameEntry] at hm
 refine ci func65 u ntmps65 (sr (bx u hS fun m bJ ac=>?_))
 have ad:SH _ _ _ _ _ [obj m [sv q0.Field,sv q0.Term,V3 A a b] 114]:=ac
 refine bx u ad fun o bK ae=>?_
 have k:SH _ _ _ _ _ [obj o [sv q1.Field,sv q1.Term,V3 B c d] 114,_]:=ae
 refine lv (r_f u) (ns (wc_seq ?_))
 obtain⟨af,ag,ah⟩:=ob hm
 refine wc_cutg (IV w K [] K [(2,pt m),(3,pt o),(26,.bool af)] [obj m [sv q0.Field,sv q0.Term,V3 A a b] 114,obj o [sv q1.Field,sv q1.Term,V3 B c d] 114]) ?_ ?_
 ·refine wc_region (fl ff114_0 u tf9 m1 k u (fl ff114_0 u tf9 m0 k u (lv (rv_sneq u u) (mv u (bt ag (fun l H=>?_) (fun l H=>?_))))))
  ·iterate 5 refine lu l ?_
   refine lv (p_t u l u) (mv u ?_)
   iterate 7 refine lu u ?_
   refine lv (p_t u u u) (wl_nil ?_)
   cases oi H
   exact qd ⟨K,u,k.f1,kr⟩
  refine lg l (rv_fieldAddr ff114_1 u) (lg l (rv_loadm1 tf9 u m1 k u) (lg l (rv_fieldAddr ff114_1 u) (lg l (rv_loadm1 tf9 u m0 k u) (lg l (rv_sneq u u) (lv (rv_pick_f u l u) (mv u (bt H (fun i I=>?_) (fun i I=>?_))))))))
  ·iterate 7 refine lu i ?_
   refine lv (p_t u i u) (wl_nil ?_)
   cases oi I
   exact qd ⟨K,u,k.f1,kr⟩
  refine lg i (rv_fieldAddr ff114_2 u) (lg i (rv_loadm1 tf112 u m1 k u) (lg i (rv_len underlying112 u x) (lg i (rv_fieldAddr ff114_2 u) (lg i (rv_loadm1 tf112 u m0 k u) (lg i (rv_len underlying112 u G) (lg i (rv_neq u u) (lv (rv_pick_f u i u) (wl_nil ?_))))))))
  cases oi I
  exact qd ⟨K,u,k.f1,kr⟩
 rintro _ bL ⟨y,rfl,U,s⟩
 refine qe_seq (wcc ah u (fun ai J=>?_) (fun ai J=>?_))
 ·refine sr (lv (r_f u) (nq (rr ?_)))
  cases oi J
  exact ey results65 ⟨y,u,U.s⟩
 refine wc_skip (qs (sr (lv (r_0 u) (nq ?_))))
 obtain⟨aj,ak,C⟩:=ob J
 refine wc_cutg (IE aj w K [] y [] []) ?_ ?_
 ·refine wc_block ?_
  obtain⟨bM,al,V⟩:=ob ak
  refine qw (fun (D:Int)=>IW w K [] y [(2,pt m),(3,pt o),(5,V6 D)] [obj m [sv q0.Field,sv q0.Term,V3 A a b] 114,obj o [sv q1.Field,sv q1.Term,V3 B c d] 114] (rng64 D)) al ⟨y,u,U,kr,d_0⟩ ?_
  rintro D _ bN bO am W ⟨X,rfl,O,q,bP⟩
  refine wc_seq (sr (mv u (fl ff114_2 u tf112 m0 O u (lv (rv_len underlying112 u (x.mono (s.trans q))) (lv (rv_lss u u) (nq (wcc am u (fun an R=>?_) (fun an R=>?_))))))))
  ·refine wc_skip (qs (wc_block (wc_seq ?_)))
   obtain⟨ao,ap,aq⟩:=ob R
   refine wc_cutg (IV w K [] X [(2,pt m),(3,pt o),(5,V6 D),(62,.bool ao)] [obj m [sv q0.Field,sv q0.Term,V3 A a b] 114,obj o [sv q1.Field,sv q1.Term,V3 B c d] 114]) ?_ ?_
   ·refine wc_quiet mixed (by kernel_rfl) O (kv (rv_fieldAddr ff114_2 u) (kh (rq_loadm1 tf112 u m0 u) (km u ?_)))
    obtain⟨ar,au,aw⟩:=ob ap
    refine ki underlying112 tf119 (x.mono (s.trans q)) au fun ax ay bQ az aA=>?_
    obtain⟨aB,aC,aD,rfl,bR,bS⟩:=az
    have aE:AtK _ ax ay [V6 ar.Doc,V3 aB aC aD]:=aA
    refine kv (rv_fieldAddr ff119_0 u) (kh (rq_load1 tf3 u (aE 0 _ u)) (kv (rv_fieldAddr ff114_2 u) (kh (rq_loadm1 tf112 u m1 u) (km u ?_))))
    obtain⟨aF,aG,aH⟩:=ob aw
    refine ki underlying112 tf119 (G.mono (s.trans q)) aG fun aI aJ bT aK aL=>?_
    obtain⟨aM,aN,aO,rfl,bU,bV⟩:=aK
    have aP:AtK _ aI aJ [V6 aF.Doc,V3 aM aN aO]:=aL
    refine kv (rv_fieldAddr ff119_0 u) (kh (rq_load1 tf3 u (aP 0 _ u)) (kv (rv_neq u u) (km u (bt aH (fun f S=>?_) (fun f S=>?_)))))
    ·iterate 14 refine kn f ?_
     refine kv (p_t u f u) (wq_nil ?_)
     rintro bW ⟨aQ,aR,aS⟩
     cases oi S
     exact qd ⟨aQ,u,aR,aS⟩
    refine kg f (rv_fieldAddr ff114_2 u) (kgh f (rq_loadm1 tf112 u m0 u) (kg f (rv_move u) ?_))
    obtain⟨aT,aU,aV⟩:=ob S
    refine wq_indexAddr (t:=tGPost) (wg u u f) u underlying112 tf119 u u (x.mono (s.trans q)) aU fun aW aX bX aY aZ=>?_
    obtain⟨ba,bb,bc,rfl,bY,bd⟩:=aY
    have be:AtK _ aW aX [V6 aT.Doc,V3 ba bb bc]:=aZ
    refine kg f (rv_fieldAddr ff119_1 u) (kgh f (rq_load1 tf117 u (be 1 _ u)) (kg f (rv_fieldAddr ff114_2 u) (kgh f (rq_loadm1 tf112 u m1 u) (kg f (rv_move u) ?_))))
    obtain⟨bf,bg,bh⟩:=ob aV
    refine wq_indexAddr (t:=tGPost) (wg u u f) u underlying112 tf119 u u (G.mono (s.trans q)) bg fun bi bj bZ bk bl=>?_
    obtain⟨bm,bn,bo,rfl,ca,bp⟩:=bk
    have bq:AtK _ bi bj [V6 bf.Doc,V3 bm bn bo]:=bl
    refine kg f (rv_fieldAddr ff119_1 u) (kgh f (rq_load1 tf117 u (bq 1 _ u)) ?_)
    obtain⟨cb,br,bs⟩:=ob bh
    refine kcg f co106 (fun _ _ bu Y=>(ok_spec_l7SameInts F) bu.enter0 (bd.mono Y) (bp.mono Y) br) (kg f (rv_not u) (kv (rv_pick_f u f u) (wq_nil ?_)))
    rintro cc ⟨bv,bz,bA⟩
    cases oi bs
    exact qd ⟨bv,u,bz,bA⟩
   rintro _ cd ⟨aa,rfl,ab,bB⟩
   refine qe_seq (wcc aq u (fun bC T=>?_) (fun bC T=>?_))
   ·refine sr (lv (r_f u) (nq (wc_ret (qe_block_ret (qe_then_ret (qe_then_ret ?_))))))
    cases oi T
    cases W _ u
    refine qe_block_ret (qe_then_ret ?_)
    cases oi V
    refine qe_then_ret ?_
    cases oi C
    exact ey results65 ⟨aa,u,ab.s⟩
   refine wc_skip (qe_block (qe_seq (wc_region (mv u (lv (rv_add u u) (av u (wl_nil ?_)))))))
   cases oi T
   exact qd ⟨_,u,aa,u,ab,(q.trans bB),(w64_rng _)⟩
  refine wc_exit (qe_then_exit (qe_then_exit ?_))
  cases oi R
  cases W _ u
  refine qe_block_eq ?_
  cases oi V
  exact qe_mid' ⟨_,X,u,u,O.s,q⟩ trivial
 rintro _ ce ⟨cf,bD,rfl,rfl,bE,cg⟩
 have C:=elim_l C
 refine qr (lv (r_t u) (nq (wc_ret ?_)))
 cases oi C
 exact ey results65 ⟨bD,u,bE⟩

theorem ok_spec_l7Posts {q0:GSeg}{q1:Str}{q2:Str}{r:(List GPost)}(hS:SH w K [] w K [])(aP:SliceAt tGDoc K A a b q0.Docs)(m:SliceAt tGEntry K B c d q0.Entries)(aQ:q1.length≤maxLen)(aR:q2.length≤maxLen)(hm:M.spec_l7Posts F q0 q1 q2=some r):
  Calls prog 66 #[.agg #[V3 A a b,V3 B c d],sv q1,sv q2] w fun e w'=>∃a_1 n_2 c_3 K',e= .returned (V3 a_1 n_2 c_3)∧SH w K [] w' K' []∧SliceAt tGPost K' a_1 n_2 c_3 r:=by
 rw [M.spec_l7Posts] at hm
 refine ci func66 u ntmps66 (sr (bx u hS fun l aS W=>?_))
 have X:SH _ _ _ _ _ [obj l [V3 A a b,V3 B c d] 41]:=W
 refine lv (r_n u) (nsr (lv (r_0 u) (nq ?_)))
 obtain⟨Y,aa,o⟩:=ob hm
 refine wc_cutg (IE Y w K [] K [] []) ?_ ?_
 ·refine wc_block ?_
  obtain⟨aT,ab,G⟩:=ob aa
  refine qw (fun (q:Int)=>IW w K [] K [(1,sv q1),(2,sv q2),(3,pt l),(7,V6 q)] [obj l [V3 A a b,V3 B c d] 41] (rng64 q)) ab ⟨K,u,X,kr,d_0⟩ ?_
  rintro q _ aU aV ac H ⟨s,rfl,i,k,aW⟩
  refine wc_seq (sr (mv u (fl ff41_1 u tf39 m0 i u (lv (rv_len underlying39 u (m.mono k)) (lv (rv_lss u u) (nq (wcc ac u (fun ad y=>?_) (fun ad y=>?_))))))))
  ·refine wc_skip (qs (wc_block (wc_seq ?_)))
   obtain⟨ae,af,ag⟩:=ob y
   refine wc_cutg (IV w K [] s [(1,sv q1),(2,sv q2),(3,pt l),(7,V6 q),(32,.bool ae)] [obj l [V3 A a b,V3 B c d] 41]) ?_ ?_
   ·refine wc_region (fl ff41_1 u tf39 m0 i u (mv u ?_))
    obtain⟨I,ah,ai⟩:=ob af
    refine li underlying39 tf114 (m.mono k) ah fun aj ak aX al am=>?_
    obtain⟨an,ao,ap,rfl,aY,aZ,ba⟩:=al
    have aq:AtK _ aj ak [sv I.Field,sv I.Term,V3 an ao ap]:=am
    refine fa ff114_0 u (lv (rv_load1 tf9 u i (aq 0 _ u)) (mv u (lv (rv_seql u u) (mv u (bt ai (fun f C=>?_) (fun f C=>?_))))))
    ·refine lg f (rv_fieldAddr ff41_1 u) (lg f (rv_loadm1 tf39 u m0 i u) (lg f (rv_move u) ?_))
     obtain⟨J,ar,au⟩:=ob C
     refine wl_indexAddr (t:=tGEntry) (wg u u f) u underlying39 tf114 u u (m.mono k) ar fun aw ax bb ay az=>?_
     obtain⟨aA,aB,aC,rfl,bc,bd,be⟩:=ay
     have aD:AtK _ aw ax [sv J.Field,sv J.Term,V3 aA aB aC]:=az
     refine lg f (rv_fieldAddr ff114_1 u) (lg f (rv_load1 tf9 u i (aD 1 _ u)) (lg f (rv_move u) (lg f (rv_seql u u) (lv (rv_pick_t u f u) (wl_nil ?_)))))
     cases oi au
     exact qd ⟨s,u,i,kr⟩
    iterate 8 refine lu f ?_
    refine lv (p_f u f u) (wl_nil ?_)
    cases oi C
    exact qd ⟨s,u,i,kr⟩
   rintro _ bf ⟨O,rfl,x,R⟩
   refine qe_seq (wcc ag u (fun aE D=>?_) (fun aE D=>?_))
   ·refine sr (fl ff41_1 u tf39 m0 x u (mv u ?_))
    obtain⟨S,aF,aG⟩:=ob D
    refine li underlying39 tf114 (m.mono (k.trans R)) aF fun aH aI bg aJ aK=>?_
    obtain⟨T,U,V,rfl,bh,bi,aL⟩:=aJ
    have aM:AtK _ aH aI [sv S.Field,sv S.Term,V3 T U V]:=aK
    refine fa ff114_2 u (lv (rv_load1 tf112 u x (aM 2 _ u)) (av u (nq (wc_ret (qe_block_ret (qe_then_ret (qe_then_ret ?_)))))))
    cases oi aG
    cases H _ u
    refine qe_block_ret (qe_then_ret ?_)
    cases oi G
    refine qe_then_ret ?_
    cases oi o
    exact ey results66 ⟨T,U,V,O,u,x.s,aL⟩
   refine wc_skip (qe_block (qe_seq (wc_region (mv u (lv (rv_add u u) (av u (wl_nil ?_)))))))
   cases oi D
   exact qd ⟨_,u,O,u,x,(k.trans R),(w64_rng _)⟩
  refine wc_exit (qe_then_exit (qe_then_exit ?_))
  cases oi y
  cases H _ u
  refine qe_block_eq ?_
  cases oi G
  exact qe_mid' ⟨_,s,u,u,i.s,k⟩ trivial
 rintro _ bj ⟨bk,aN,rfl,rfl,aO,bl⟩
 have o:=elim_l o
 refine qr (lv (r_n u) (nq (wc_ret ?_)))
 cases oi o
 exact ey results66 ⟨none,0,0,aN,u,aO,(SliceAt.nil _ _)⟩

theorem ok_spec_l12At {q0:GSeg}{q1:Str}{q2:Str}{q3:Int}{r:(List Int)}(hS:SH w K [] w K [])(J:SliceAt tGDoc K A a b q0.Docs)(O:SliceAt tGEntry K B c d q0.Entries)(R:q1.length≤maxLen)(S:q2.length≤maxLen)(aJ:rng64 q3)(hm:M.spec_l12At F q0 q1 q2 q3=some r):
  Calls prog 107 #[.agg #[V3 A a b,V3 B c d],sv q1,sv q2,V6 q3] w fun e w'=>∃a_1 n_2 c_3 K',e= .returned (V3 a_1 n_2 c_3)∧SH w K [] w' K' []∧SliceAt tInt K' a_1 n_2 c_3 r:=by
 rw [M.spec_l12At] at hm
 refine ci func107 u ntmps107 (sr (bx u hS fun T aK U=>?_))
 have l:SH _ _ _ _ _ [obj T [V3 A a b,V3 B c d] 41]:=U
 refine lv (r_n u) (nr (lv (rv_loadmS (ds:=[V3 A a b,V3 B c d]) tf41 u m0 l u u) (mv u (mv u ?_))))
 obtain⟨aL,V,W⟩:=ob hm
 refine lk co66 (ok_spec_l7Posts F l.enter0 J O R S V) ?_
 rintro aM aN ⟨X,Y,aa,m,rfl,ab,o⟩
 have ac:=(l.c0 ab).t1
 refine av u (nsr (lv (r_0 u) (nq ?_)))
 obtain⟨ad,ae,k⟩:=ob W
 refine wc_cutg (IE ad w K [] m [] []) ?_ ?_
 ·refine wc_block ?_
  obtain⟨aO,af,C⟩:=ob ae
  have ag:=ac.sb (sd sz)
  refine qw (fun (q:Int)=>IW w K [] m [(3,V6 q3),(9,V3 X Y aa),(10,V6 q)] [] (rng64 q)) af ⟨m,u,ag,kr,d_0⟩ ?_
  rintro q _ aP aQ ah D ⟨s,rfl,f,i,aR⟩
  refine wc_seq (sr (mv u (mv u (lv (rv_len underlying112 u (o.mono i)) (lv (rv_lss u u) (nq (wcc ah u (fun ai x=>?_) (fun ai x=>?_))))))))
  ·refine wc_skip (qs (wc_block (sr (mv u (mv u ?_)))))
   obtain⟨aj,ak,al⟩:=ob x
   refine li underlying112 tf119 (o.mono i) ak fun am an aS ao ap=>?_
   obtain⟨aq,ar,au,rfl,aT,aU⟩:=ao
   have aw:AtK _ am an [V6 aj.Doc,V3 aq ar au]:=ap
   refine fa ff119_0 u (lv (rv_load1 tf3 u f (aw 0 _ u)) (mv u (lv (rv_eql u u) (nq (wcc al u (fun ax y=>?_) (fun ax y=>?_))))))
   ·refine sr (mv u (mv u ?_))
    obtain⟨ay,az,aA⟩:=ob y
    refine li underlying112 tf119 (o.mono i) az fun aB aC aV aD aE=>?_
    obtain⟨G,H,I,rfl,aW,aF⟩:=aD
    have aG:AtK _ aB aC [V6 ay.Doc,V3 G H I]:=aE
    refine fa ff119_1 u (lv (rv_load1 tf117 u f (aG 1 _ u)) (av u (nq (wc_ret (qe_block_ret (qe_then_ret (qe_then_ret ?_)))))))
    cases oi aA
    cases D _ u
    refine qe_block_ret (qe_then_ret ?_)
    cases oi C
    refine qe_then_ret ?_
    cases oi k
    exact ey results107 ⟨G,H,I,s,u,f,aF⟩
   refine wc_skip (qe_block (qe_seq (wc_region (mv u (lv (rv_add u u) (av u (wl_nil ?_)))))))
   cases oi y
   exact qd ⟨_,u,s,u,f,i,(w64_rng _)⟩
  refine wc_exit (qe_then_exit (qe_then_exit ?_))
  cases oi x
  cases D _ u
  refine qe_block_eq ?_
  cases oi C
  exact qe_mid' ⟨_,s,u,u,f,i⟩ trivial
 rintro _ aX ⟨aY,aH,rfl,rfl,aI,aZ⟩
 have k:=elim_l k
 refine qr (lv (r_n u) (nq (wc_ret ?_)))
 cases oi k
 exact ey results107 ⟨none,0,0,aH,u,aI,(SliceAt.nil _ _)⟩

theorem ok_spec_l10Gcd (F:Nat): ∀{w:World} {K:KMap} {q0:Int} {q1:Int} {r:Int} (hS:SH w K [] w K []) (d:rng64 q0) (f:rng64 q1) (hm:M.spec_l10Gcd F q0 q1=some r),
  Calls prog 177 #[V6 q0,V6 q1] w (R_i w K r):=by
 induction F with
 | zero=>intros;rename_i hm;rw [M.spec_l10Gcd] at hm;cases hm
 | succ F ih=>
  intro w K q0 q1 r hS d f hm
  rw [M.spec_l10Gcd] at hm
  refine ci func177 u ntmps177 (sr (lv (r_0 u) (nsr (mv u (lv (rv_lss u u) (nq ?_))))))
  obtain⟨i,m,o⟩:=ob hm
  refine wc_cutg (IW w K [] K [(0,V6 i),(1,V6 q1)] [] (rng64 i)) ?_ ?_
  ·refine wcc m u (fun q a=>?_) (fun q a=>?_)
   ·refine wc_region (mv u (lv (rv_neg u) (av u (wl_nil ?_))))
    cases oi a
    exact qd ⟨K,u,hS,kr,(w64_rng _)⟩
   refine wc_skip ?_
   cases oi a
   exact qd ⟨K,u,hS,kr,d⟩
  rintro _ I ⟨s,rfl,b,J,k⟩
  refine qs (sr (mv u (lv (rv_eql u u) (nq (wcc o u (fun x c=>?_) (fun x c=>?_))))))
  ·refine sr (mv u (av u (nq (rr ?_))))
   cases oi c
   exact ey results177 ⟨s,u,b,k⟩
  refine wc_skip (qr (mv u (mv u (mv u ?_))))
  obtain⟨O,l,y⟩:=ob c
  refine lv (rv_rem u u l) ?_
  obtain⟨R,A,B⟩:=ob y
  refine lk co177 (ih b.enter0 f (rng_rem k l) A) ?_
  rintro S T ⟨C,rfl,D,G⟩
  have H:=(b.c0 D).t0
  refine av u (nq (wc_ret ?_))
  cases oi B
  exact ey results177 ⟨C,u,H,G⟩

theorem ok_spec_l10Make {q0:Int}{q1:Int}{r:GRat}(hS:SH w K [] w K [])(s:rng64 q0)(v:rng64 q1)(hm:M.spec_l10Make F q0 q1=some r):
  Calls prog 151 #[V6 q0,V6 q1] w fun e w'=>∃K',e= .returned (.agg #[V6 r.Up,V6 r.Down])∧SH w K [] w' K' []∧rng64 r.Up∧rng64 r.Down:=by
 rw [M.spec_l10Make] at hm
 refine ci func151 u ntmps151 (sr (al tf142 hS fun g3 S x=>?_))
 have d:SH _ _ _ _ _ [obj g3 [V6 0,V6 0] 142]:=x
 refine nsr (mv u (lv (rv_lss u u) (nq ?_)))
 obtain⟨a,y,A⟩:=ob hm
 refine wc_cutg (IW w K [] K [(0,V6 a.1),(1,V6 a.2),(4,pt g3)] [obj g3 [V6 0,V6 0] 142] (rng64 a.1∧rng64 a.2)) ?_ ?_
 ·refine wcc y u (fun B b=>?_) (fun B b=>?_)
  ·refine sr (mv u (lv (rv_neg u) (av u (nq (wc_region (mv u (lv (rv_neg u) (av u (wl_nil ?_)))))))))
   cases oi b
   exact qd ⟨K,u,d,kr,(w64_rng _),(w64_rng _)⟩
  refine wc_skip ?_
  cases oi b
  exact qd ⟨K,u,d,kr,s,v⟩
 rintro _ T ⟨U,rfl,f,V,C,D⟩
 refine qr (mv u (mv u ?_))
 obtain⟨W,G,H⟩:=ob A
 refine lk co177 (ok_spec_l10Gcd F f.enter0 C D G) ?_
 rintro X Y ⟨i,rfl,I,aa⟩
 have J:=(f.c0 I).t1
 refine av u (ns ?_)
 have k:=J.drew
 refine wh1 (fun w'=>Holds i w') (fun w'=>True) 8 [] mixed (k.hasK kr) (fun _=>trivial) (gt (rv_move u) (gt (rv_move u) ?_))
 obtain⟨l,m,O⟩:=ob H
 refine gt (rv_quo u u m) (gt (rv_move u) (gt (rv_move u) ?_))
 obtain⟨o,q,R⟩:=ob O
 refine gt (rv_quo u u q) (gt (rv_build (cs:=#[V6 l,V6 o]) sp142 tf142 u (by kernel_rfl)) (gn (lw [V6 l,V6 o] tf142 k fun ab c=>(wl_nil (qh (c.hasK kr) (fun _=>trivial) (gd' (qe_seq (wc_ret ?_))))))))
 cases oi R
 exact ez results151 tf142 c m0 ⟨i,u,c.s,(rng_quo m),(rng_quo q)⟩

theorem ok_spec_l12Rare {q0:Int}{q1:Int}{r:Int}(hS:SH w K [] w K [])(s:rng64 q0)(U:rng64 q1)(hm:M.spec_l12Rare F q0 q1=some r):
  Calls prog 152 #[V6 q0,V6 q1] w (R_i w K r):=by
 rw [M.spec_l12Rare] at hm
 refine ci func152 u ntmps152 (sr (lv (r_0 u) (nr (lv (r_0 u) (ns ?_)))))
 obtain⟨i,x,y⟩:=ob hm
 refine wc_cutg (IW w K [] K [(5,V6 i)] [] (rng64 i)) ?_ ?_
 ·refine wc_block ?_
  obtain⟨V,A,B⟩:=ob x
  refine qw (fun (b:Int×Int)=>IW w K [] K [(0,V6 b.1),(1,V6 q1),(5,V6 b.2)] [] (rng64 b.1∧rng64 b.2)) A ⟨K,u,hS,kr,s,d_0⟩ ?_
  rintro b _ W X C D ⟨c,rfl,k,l,Y,G⟩
  refine wc_seq (wc_seq ?_)
  obtain⟨H,I,J⟩:=ob C
  refine wc_cutg (IV w K [] c [(0,V6 b.1),(1,V6 q1),(5,V6 b.2),(13,.bool H)] []) ?_ ?_
  ·refine wc_region (mv u (lv (rv_gtr u u) (mv u (bt I (fun a d=>?_) (fun a d=>?_)))))
   ·refine lg a (rv_move u) (lg a (rv_mul u u) (lg a (rv_move u) (lg a (rv_leq u u) (lv (rv_pick_t u a u) (wl_nil ?_)))))
    cases oi d
    exact qd ⟨c,u,k,kr⟩
   refine lu a (lu a (lu a (lu a (lv (p_f u a u) (wl_nil ?_)))))
   cases oi d
   exact qd ⟨c,u,k,kr⟩
  rintro _ aa ⟨m,rfl,o,q⟩
  refine qe_seq (wcc J u (fun O f=>?_) (fun O f=>?_))
  ·refine wc_skip (qe_seq (wc_block (sr (mv u (lv (rv_mul u u) (av u (nq (wc_region (mv u ?_)))))))))
   refine lv (rv_add u u) (av u (nb ?_))
   cases oi f
   exact qd ⟨_,u,m,u,o,(l.trans q),(w64_rng _),(w64_rng _)⟩
  refine wc_exit (qe_then_exit (qe_then_exit ?_))
  cases oi f
  cases D _ u
  refine qe_block_eq ?_
  cases oi B
  exact qd ⟨m,u,o,(l.trans q),G⟩
 rintro _ w9 ⟨R,rfl,S,ac,T⟩
 refine qr (mv u (av u (nq (wc_ret ?_))))
 cases oi y
 exact ey results152 ⟨R,u,S,T⟩

theorem ok_spec_l12Term {q0:Int}{q1:Int}{q2:Int}{q3:Int}{q4:Int}{r:GRat}(hS:SH w K [] w K [])(U:rng64 q0)(V:rng64 q1)(W:rng64 q2)(o:rng64 q3)(q:rng64 q4)(hm:M.spec_l12Term F q0 q1 q2 q3 q4=some r):
  Calls prog 108 #[V6 q0,V6 q1,V6 q2,V6 q3,V6 q4] w fun e w'=>∃K',e= .returned (.agg #[V6 r.Up,V6 r.Down])∧SH w K [] w' K' []∧rng64 r.Up∧rng64 r.Down:=by
 rw [M.spec_l12Term] at hm
 refine ci func108 u ntmps108 (sr (al tf142 hS fun a X s=>?_))
 have c:SH _ _ _ _ _ [obj a [V6 0,V6 0] 142]:=s
 refine nr (lv (rv_assign (v:=V6 1) u) (nsr (mv u (lv (rv_gtr u u) (nq ?_)))))
 obtain⟨d,x,y⟩:=ob hm
 refine wc_cutg (IW w K [] K [(0,V6 q0),(3,V6 q3),(4,V6 q4),(10,pt a),(11,V6 d)] [obj a [V6 0,V6 0] 142] (rng64 d)) ?_ ?_
 ·refine wcc x u (fun A b=>?_) (fun A b=>?_)
  ·refine wc_region (mv u (mv u (lv (rv_mul u u) (lv (rv_mul u u) (mv u ?_)))))
   obtain⟨Y,f,B⟩:=ob b
   refine lv (rv_quo u u f) (av u (wl_nil ?_))
   cases oi B
   exact qd ⟨K,u,c,kr,(rng_quo f)⟩
  refine wc_skip ?_
  cases oi b
  exact qd ⟨K,u,c,kr,(by decide :rng64 1)⟩
 rintro _ aa ⟨ab,rfl,i,ac,ad⟩
 refine qr (mv u (mv u ?_))
 obtain⟨ae,C,D⟩:=ob y
 refine lk co152 (ok_spec_l12Rare F i.enter0 q o C) ?_
 rintro af ag ⟨ah,rfl,G,ai⟩
 have k:=(i.c0 G).t1
 refine lv (rv_add u u) (lv (rv_mul u u) (mv u (lv (rv_mul u u) (mv u (lv (rv_mul u u) (lv (rv_add u u) (mv u (lv (rv_add u u) ?_))))))))
 obtain⟨l,H,I⟩:=ob D
 refine lk co151 (ok_spec_l10Make F k.enter0 (w64_rng _) (w64_rng _) H) ?_
 rintro aj ak ⟨J,rfl,O,R,S⟩
 have T:=(k.c0 O).t1
 refine lw [V6 l.Up,V6 l.Down] tf142 T fun am m=>(nq (wc_ret ?_))
 cases oi I
 exact ez results108 tf142 m m0 ⟨J,u,m.s,R,S⟩

theorem ok_spec_l7Long {q0:GSeg}{q1:Str}{q2:Int}{r:Int}(hS:SH w K [] w K [])(bX:SliceAt tGDoc K A a b q0.Docs)(x:SliceAt tGEntry K B c d q0.Entries)(bY:q1.length≤maxLen)(bZ:rng64 q2)(hm:M.spec_l7Long F q0 q1 q2=some r):
  Calls prog 109 #[.agg #[V3 A a b,V3 B c d],sv q1,V6 q2] w (R_i w K r):=by
 rw [M.spec_l7Long] at hm
 refine ci func109 u ntmps109 (sr (bx u hS fun i ca ab=>?_))
 have ac:SH _ _ _ _ _ [obj i [V3 A a b,V3 B c d] 41]:=ab
 refine lv (r_0 u) (nr (lv (r_0 u) (nsr (lv (r_0 u) (nq ?_)))))
 obtain⟨S,ad,ae⟩:=ob hm
 refine wc_cutg (IW w K [] K [(7,V6 S)] [] (rng64 S)) ?_ ?_
 ·refine wc_block ?_
  obtain⟨cb,af,ag⟩:=ob ad
  refine qw (fun (l:Int×Int)=>IW w K [] K [(1,sv q1),(2,V6 q2),(3,pt i),(7,V6 l.1),(8,V6 l.2)] [obj i [V3 A a b,V3 B c d] 41] (rng64 l.1∧rng64 l.2)) af ⟨K,u,ac,kr,d_0,d_0⟩ ?_
  rintro l _ cc cd ah ai ⟨C,rfl,D,m,T,ce⟩
  refine wc_seq (sr (mv u (fl ff41_1 u tf39 m0 D u (lv (rv_len underlying39 u (x.mono m)) (lv (rv_lss u u) (nq (wcc ah u (fun aj G=>?_) (fun aj G=>?_))))))))
  ·refine wc_skip (qs (wc_block (sr (lv (r_0 u) (nq ?_)))))
   obtain⟨U,ak,al⟩:=ob G
   refine wc_cutg (IW w K [] C [(1,sv q1),(2,V6 q2),(3,pt i),(7,V6 U),(8,V6 l.2)] [obj i [V3 A a b,V3 B c d] 41] (rng64 U)) ?_ ?_
   ·refine wc_block ?_
    obtain⟨cf,am,an⟩:=ob ak
    refine qw (fun (o:Int×Int)=>IW w K [] C [(1,sv q1),(2,V6 q2),(3,pt i),(7,V6 o.1),(8,V6 l.2),(9,V6 o.2)] [obj i [V3 A a b,V3 B c d] 41] (rng64 o.1∧rng64 o.2)) am ⟨C,u,D,kr,T,d_0⟩ ?_
    rintro o _ cg ch ao ap ⟨H,rfl,s,q,V,cj⟩
    refine wc_seq (wc_seq ?_)
    obtain⟨aq,ar,au⟩:=ob ao
    refine wc_cutg (IV w K [] H [(1,sv q1),(2,V6 q2),(3,pt i),(7,V6 o.1),(8,V6 l.2),(9,V6 o.2),(35,.bool aq)] [obj i [V3 A a b,V3 B c d] 41]) ?_ ?_
    ·refine wc_region (mv u (fl ff41_1 u tf39 m0 s u (mv u ?_)))
     obtain⟨W,aw,ax⟩:=ob ar
     refine li underlying39 tf114 (x.mono (m.trans q)) aw fun ay az ck aA aB=>?_
     obtain⟨aC,aD,aE,rfl,cl,cm,aF⟩:=aA
     have aG:AtK _ ay az [sv W.Field,sv W.Term,V3 aC aD aE]:=aB
     refine fa ff114_2 u (lv (rv_load1 tf112 u s (aG 2 _ u)) (lv (rv_len underlying112 u aF) (lv (rv_lss u u) (mv u (bt ax (fun f I=>?_) (fun f I=>?_))))))
     ·refine lg f (rv_fieldAddr ff41_1 u) (lg f (rv_loadm1 tf39 u m0 s u) (lg f (rv_move u) ?_))
      obtain⟨X,aH,aI⟩:=ob I
      refine wl_indexAddr (t:=tGEntry) (wg u u f) u underlying39 tf114 u u (x.mono (m.trans q)) aH fun aJ aK cn aL aM=>?_
      obtain⟨aN,aO,aP,rfl,cp,cq,cr⟩:=aL
      have aQ:AtK _ aJ aK [sv X.Field,sv X.Term,V3 aN aO aP]:=aM
      refine lg f (rv_fieldAddr ff114_0 u) (lg f (rv_load1 tf9 u s (aQ 0 _ u)) (lg f (rv_move u) (lg f (rv_seql u u) (lv (rv_pick_t u f u) (wl_nil ?_)))))
      cases oi aI
      exact qd ⟨H,u,s,kr⟩
     iterate 8 refine lu f ?_
     refine lv (p_f u f u) (wl_nil ?_)
     cases oi I
     exact qd ⟨H,u,s,kr⟩
    rintro _ cs ⟨J,rfl,k,y⟩
    refine qe_seq (wcc au u (fun aR O=>?_) (fun aR O=>?_))
    ·refine wc_skip (qs (wc_block (sr (fl ff41_1 u tf39 m0 k u (mv u ?_)))))
     obtain⟨Y,aS,aT⟩:=ob O
     refine li underlying39 tf114 (x.mono ((m.trans q).trans y)) aS fun aU aV ct aW aX=>?_
     obtain⟨aY,aZ,ba,rfl,cu,cv,bb⟩:=aW
     have bc:AtK _ aU aV [sv Y.Field,sv Y.Term,V3 aY aZ ba]:=aX
     refine fa ff114_2 u (lv (rv_load1 tf112 u k (bc 2 _ u)) (mv u ?_))
     obtain⟨bd,be,bf⟩:=ob aT
     refine li underlying112 tf119 bb be fun bg bh cw bi bj=>?_
     obtain⟨bk,bl,bm,rfl,cx,cy⟩:=bi
     have bn:AtK _ bg bh [V6 bd.Doc,V3 bk bl bm]:=bj
     refine fa ff119_0 u (lv (rv_load1 tf3 u k (bn 0 _ u)) (mv u (lv (rv_eql u u) (nq (wcc bf u (fun bo R=>?_) (fun bo R=>?_))))))
     ·refine wc_region (mv u (fl ff41_1 u tf39 m0 k u (mv u ?_)))
      obtain⟨aa,bp,bq⟩:=ob R
      refine li underlying39 tf114 (x.mono ((m.trans q).trans y)) bp fun br bs cz bu bv=>?_
      obtain⟨bz,bA,bB,rfl,cA,cB,bC⟩:=bu
      have bD:AtK _ br bs [sv aa.Field,sv aa.Term,V3 bz bA bB]:=bv
      refine fa ff114_2 u (lv (rv_load1 tf112 u k (bD 2 _ u)) (mv u ?_))
      obtain⟨bE,bF,bG⟩:=ob bq
      refine li underlying112 tf119 bC bF fun bH bI cC bJ bK=>?_
      obtain⟨bL,bM,bN,rfl,cD,bO⟩:=bJ
      have bP:AtK _ bH bI [V6 bE.Doc,V3 bL bM bN]:=bK
      refine fa ff119_1 u (lv (rv_load1 tf117 u k (bP 1 _ u)) (lv (rv_len underlying117 u bO) (lv (rv_add u u) (av u (nb (qe_seq (wc_region (mv u (lv (rv_add u u) ?_)))))))))
      refine av u (wl_nil ?_)
      cases oi bG
      exact qd ⟨_,u,J,u,k,(q.trans y),(w64_rng _),(w64_rng _)⟩
     refine wc_skip (qe_block (qe_seq (wc_region (mv u (lv (rv_add u u) (av u (wl_nil ?_)))))))
     cases oi R
     exact qd ⟨_,u,J,u,k,(q.trans y),V,(w64_rng _)⟩
    refine wc_exit (qe_then_exit (qe_then_exit ?_))
    cases oi O
    cases ap _ u
    refine qe_block_eq ?_
    cases oi an
    exact qd ⟨J,u,k,(q.trans y),V⟩
   rintro _ cE ⟨bQ,rfl,bR,bS,bT⟩
   refine qe_block (qe_seq (wc_region (mv u (lv (rv_add u u) (av u (wl_nil ?_))))))
   cases oi al
   exact qd ⟨_,u,bQ,u,bR,(m.trans bS),bT,(w64_rng _)⟩
  refine wc_exit (qe_then_exit (qe_then_exit ?_))
  cases oi G
  cases ai _ u
  refine qe_block_eq ?_
  cases oi ag
  exact qd ⟨C,u,D.s,m,T⟩
 rintro _ cF ⟨bU,rfl,bV,cG,bW⟩
 refine qr (mv u (av u (nq (wc_ret ?_))))
 cases oi ae
 exact ey results109 ⟨bU,u,bV,bW⟩

theorem ok_spec_l12Total {q0:GSeg}{q1:Str}{r:Int}(hS:SH w K [] w K [])(bv:SliceAt tGDoc K A a b q0.Docs)(x:SliceAt tGEntry K B c d q0.Entries)(bz:q1.length≤maxLen)(hm:M.spec_l12Total F q0 q1=some r):
  Calls prog 110 #[.agg #[V3 A a b,V3 B c d],sv q1] w (R_i w K r):=by
 rw [M.spec_l12Total] at hm
 refine ci func110 u ntmps110 (sr (bx u hS fun i bA X=>?_))
 have Y:SH _ _ _ _ _ [obj i [V3 A a b,V3 B c d] 41]:=X
 refine lv (r_0 u) (nr (lv (r_0 u) (nsr (lv (r_0 u) (nq ?_)))))
 obtain⟨O,aa,ab⟩:=ob hm
 refine wc_cutg (IW w K [] K [(5,V6 O)] [] (rng64 O)) ?_ ?_
 ·refine wc_block ?_
  obtain⟨bB,ac,ad⟩:=ob aa
  refine qw (fun (k:Int×Int)=>IW w K [] K [(1,sv q1),(2,pt i),(5,V6 k.1),(6,V6 k.2)] [obj i [V3 A a b,V3 B c d] 41] (rng64 k.1∧rng64 k.2)) ac ⟨K,u,Y,kr,d_0,d_0⟩ ?_
  rintro k _ bC bD ae af ⟨y,rfl,C,m,R,bE⟩
  refine wc_seq (sr (mv u (fl ff41_1 u tf39 m0 C u (lv (rv_len underlying39 u (x.mono m)) (lv (rv_lss u u) (nq (wcc ae u (fun ag D=>?_) (fun ag D=>?_))))))))
  ·refine wc_skip (qs (wc_block (sr (lv (r_0 u) (nq ?_)))))
   obtain⟨S,ah,ai⟩:=ob D
   refine wc_cutg (IW w K [] y [(1,sv q1),(2,pt i),(5,V6 S),(6,V6 k.2)] [obj i [V3 A a b,V3 B c d] 41] (rng64 S)) ?_ ?_
   ·refine wc_block ?_
    obtain⟨bF,aj,ak⟩:=ob ah
    refine qw (fun (l:Int×Int)=>IW w K [] y [(1,sv q1),(2,pt i),(5,V6 l.1),(6,V6 k.2),(7,V6 l.2)] [obj i [V3 A a b,V3 B c d] 41] (rng64 l.1∧rng64 l.2)) aj ⟨y,u,C,kr,R,d_0⟩ ?_
    rintro l _ bG bH al am ⟨G,rfl,o,q,an,bI⟩
    refine wc_seq (wc_seq ?_)
    obtain⟨ao,ap,aq⟩:=ob al
    refine wc_cutg (IV w K [] G [(1,sv q1),(2,pt i),(5,V6 l.1),(6,V6 k.2),(7,V6 l.2),(33,.bool ao)] [obj i [V3 A a b,V3 B c d] 41]) ?_ ?_
    ·refine wc_region (mv u (fl ff41_1 u tf39 m0 o u (mv u ?_)))
     obtain⟨T,ar,au⟩:=ob ap
     refine li underlying39 tf114 (x.mono (m.trans q)) ar fun aw ax bJ ay az=>?_
     obtain⟨aA,aB,aC,rfl,bK,bL,aD⟩:=ay
     have aE:AtK _ aw ax [sv T.Field,sv T.Term,V3 aA aB aC]:=az
     refine fa ff114_2 u (lv (rv_load1 tf112 u o (aE 2 _ u)) (lv (rv_len underlying112 u aD) (lv (rv_lss u u) (mv u (bt au (fun f H=>?_) (fun f H=>?_))))))
     ·refine lg f (rv_fieldAddr ff41_1 u) (lg f (rv_loadm1 tf39 u m0 o u) (lg f (rv_move u) ?_))
      obtain⟨U,aF,aG⟩:=ob H
      refine wl_indexAddr (t:=tGEntry) (wg u u f) u underlying39 tf114 u u (x.mono (m.trans q)) aF fun aH aI bM aJ aK=>?_
      obtain⟨aL,aM,aN,rfl,bN,bO,bP⟩:=aJ
      have aO:AtK _ aH aI [sv U.Field,sv U.Term,V3 aL aM aN]:=aK
      refine lg f (rv_fieldAddr ff114_0 u) (lg f (rv_load1 tf9 u o (aO 0 _ u)) (lg f (rv_move u) (lg f (rv_seql u u) (lv (rv_pick_t u f u) (wl_nil ?_)))))
      cases oi aG
      exact qd ⟨G,u,o,kr⟩
     iterate 8 refine lu f ?_
     refine lv (p_f u f u) (wl_nil ?_)
     cases oi H
     exact qd ⟨G,u,o,kr⟩
    rintro _ bQ ⟨V,rfl,s,I⟩
    refine qe_seq (wcc aq u (fun aP J=>?_) (fun aP J=>?_))
    ·refine wc_skip (qs (wc_block (wc_region (mv u (fl ff41_1 u tf39 m0 s u (mv u ?_))))))
     obtain⟨W,aQ,aR⟩:=ob J
     refine li underlying39 tf114 (x.mono ((m.trans q).trans I)) aQ fun aS aT bR aU aV=>?_
     obtain⟨aW,aX,aY,rfl,bS,bT,aZ⟩:=aU
     have ba:AtK _ aS aT [sv W.Field,sv W.Term,V3 aW aX aY]:=aV
     refine fa ff114_2 u (lv (rv_load1 tf112 u s (ba 2 _ u)) (mv u ?_))
     obtain⟨bb,bc,bd⟩:=ob aR
     refine li underlying112 tf119 aZ bc fun be bf bU bg bh=>?_
     obtain⟨bi,bj,bk,rfl,bV,bl⟩:=bg
     have bm:AtK _ be bf [V6 bb.Doc,V3 bi bj bk]:=bh
     refine fa ff119_1 u (lv (rv_load1 tf117 u s (bm 1 _ u)) (lv (rv_len underlying117 u bl) (lv (rv_add u u) (av u (nb (qe_seq (wc_region (mv u (lv (rv_add u u) ?_)))))))))
     refine av u (wl_nil ?_)
     cases oi bd
     exact qd ⟨_,u,V,u,s,(q.trans I),(w64_rng _),(w64_rng _)⟩
    refine wc_exit (qe_then_exit (qe_then_exit ?_))
    cases oi J
    cases am _ u
    refine qe_block_eq ?_
    cases oi ak
    exact qd ⟨V,u,s,(q.trans I),an⟩
   rintro _ bW ⟨bn,rfl,bo,bp,bq⟩
   refine qe_block (qe_seq (wc_region (mv u (lv (rv_add u u) (av u (wl_nil ?_))))))
   cases oi ai
   exact qd ⟨_,u,bn,u,bo,(m.trans bp),bq,(w64_rng _)⟩
  refine wc_exit (qe_then_exit (qe_then_exit ?_))
  cases oi D
  cases af _ u
  refine qe_block_eq ?_
  cases oi ad
  exact qd ⟨y,u,C.s,m,R⟩
 rintro _ bX ⟨br,rfl,bs,bY,bu⟩
 refine qr (mv u (av u (nq (wc_ret ?_))))
 cases oi ab
 exact ey results110 ⟨br,u,bs,bu⟩

theorem ok_spec_l12Points {q0:GSeg}{q1:Str}{q2:Str}{q3:Int}{r:Int}(hS:SH w K [] w K [])(l:SliceAt tGDoc K A a b q0.Docs)(o:SliceAt tGEntry K B c d q0.Entries)(q:q1.length≤maxLen)(G:q2.length≤maxLen)(ar:rng64 q3)(hm:M.spec_l12Points F q0 q1 q2 q3=some r):
  Calls prog 67 #[.agg #[V3 A a b,V3 B c d],sv q1,sv q2,V6 q3] w (R_i w K r):=by
 rw [M.spec_l12Points] at hm
 refine ci func67 u ntmps67 (sr (bx u hS fun aO bL ba=>?_))
 have au:SH _ _ _ _ _ [obj aO [V3 A a b,V3 B c d] 41]:=ba
 refine lv (r_0 u) (nr (lv (rv_loadmS (ds:=[V3 A a b,V3 B c d]) tf41 u m0 au u u) (mv u (mv u (mv u ?_)))))
 obtain⟨bM,bb,bc⟩:=ob hm
 refine lk co107 (ok_spec_l12At F au.enter0 l o q G ar bb) ?_
 rintro bN bO ⟨bP,bQ,bR,aw,rfl,i,D⟩
 have aP:=(au.c0 i).t1
 refine lv (rv_len underlying117 u D) (av u (nsr (mv u (lv (rv_eql u u) (nq (wcc bc u (fun bd ax=>?_) (fun bd ax=>?_)))))))
 ·refine sr (lv (r_0 u) (nq (rr ?_)))
  cases oi ax
  exact ey results67 ⟨aw,u,aP.s,d_0⟩
 refine wc_skip (qs ?_)
 obtain⟨X,be,bf⟩:=ob ax
 refine wc_cutg (fun E' w'=>∃ay Y,E'=[(10,pt ay)]∧SH w K [] w' Y [obj ay [V6 X.Up,V6 X.Down] 142]∧KLe aw Y∧rng64 X.Up∧rng64 X.Down) ?_ ?_
 ·obtain⟨bS,aQ,bg⟩:=ob be
  obtain⟨bT,az,bh⟩:=ob bg
  obtain⟨bU,aa,bi⟩:=ob bh
  obtain⟨s,H,I⟩:=ob bi
  have J:=aP.drew
  refine j_0 (fun w'=>Holds aw w'∧HasObj aO [V3 A a b,V3 B c d] w') 19 [] mixed ⟨J.hasK kr,J.hasObj m0⟩ (jv 0 u (rv_move u) (jh 1 u (fun _ h=>rh_loadmS (ds:=[V3 A a b,V3 B c d]) tf41 u u u h.2) (jv 2 u (rv_move u) (jv 3 u (rv_move u) (jh 5 u (fun _ h=>rh_loadmS (ds:=[V3 A a b,V3 B c d]) tf41 u u u h.2) (jv 6 u (rv_move u) (jv 8 u (rv_fieldAddr ff41_0 u) (jh 9 u (fun _ h=>rh_loadm1 tf38 u u h.2) (jv 10 u (rv_len underlying38 u (l.mono i.le)) ?_)))))))))
  refine jh 11 u (fun _ h=>rh_loadmS (ds:=[V3 A a b,V3 B c d]) tf41 u u u h.2) (jv 12 u (rv_move u) (jv 13 u (rv_move u) (j2 4 17 u u ?_ ?_)))
  ·refine lk co109 (ok_spec_l7Long F J.enter0 (l.mono i.le) (o.mono i.le) q ar aQ) ?_
   rintro bV bW ⟨bX,rfl,f,ab⟩
   have O:=(J.c0 f).t1
   refine j_o ⟨O.hasK f.le,O.hasObj m0⟩ (j2 7 17 u u ?_ ?_)
   ·refine lk co110 (ok_spec_l12Total F O.enter0 (l.mono (i.le.trans f.le)) (o.mono (i.le.trans f.le)) q az) ?_
    rintro bY bZ ⟨ca,rfl,k,aA⟩
    have R:=(O.c0 k).t1
    refine j_o ⟨R.hasK (f.le.trans k.le),R.hasObj m0⟩ (j2 14 17 u u ?_ ?_)
    ·refine lk co66 (ok_spec_l7Posts F R.enter0 (l.mono ((i.le.trans f.le).trans k.le)) (o.mono ((i.le.trans f.le).trans k.le)) q G aa) ?_
     rintro cb cc ⟨cd,ce,cf,cg,rfl,x,aB⟩
     have S:=(R.c0 x).t1
     refine j_o ⟨S.hasK ((f.le.trans k.le).trans x.le),S.hasObj m0⟩ (jv 15 u (rv_len underlying112 u aB) (j2 16 17 u u ?_ ?_))
     ·refine lk co108 (ok_spec_l12Term F S.enter0 D.rn ab aA (l.mono i.le).rn aB.rn H) ?_
      rintro ch cj ⟨bj,rfl,T,bk,bl⟩
      have aC:=(S.c0 T).t1
      refine j_o ⟨aC.hasK (((f.le.trans k.le).trans x.le).trans T.le),aC.hasObj m0⟩ (j1 17 u (al tf142 aC fun aR ck bm=>?_))
      have aD:SH _ _ _ _ _ [obj aR [V6 0,V6 0] 142,_]:=bm
      refine j_o ⟨aD.hasK (((f.le.trans k.le).trans x.le).trans T.le),aD.hasObj m1⟩ (j1 18 u (lw [V6 s.Up,V6 s.Down] tf142 aD fun cl aE=>(j_o ⟨aE.hasK (((f.le.trans k.le).trans x.le).trans T.le),aE.hasObj m1⟩ (jd ?_))))
      cases oi I
      exact qd ⟨aR,bj,u,aE.s,(((f.le.trans k.le).trans x.le).trans T.le),bk,bl⟩
     refine al tf142 S fun aS cm bn=>?_
     have ac:SH _ _ _ _ _ [obj aS [V6 0,V6 0] 142,_]:=bn
     refine j_o ⟨ac.hasK ((f.le.trans k.le).trans x.le),ac.hasObj m1⟩ (j1 16 u (lk co108 (ok_spec_l12Term F ac.enter0 D.rn ab aA (l.mono i.le).rn aB.rn H) ?_))
     rintro cn cp ⟨bo,rfl,ad,bp,bq⟩
     have aF:=(ac.c0 ad).t2
     refine j_o ⟨aF.hasK (((f.le.trans k.le).trans x.le).trans ad.le),aF.hasObj m1⟩ (j1 18 u (lw [V6 s.Up,V6 s.Down] tf142 aF fun cq aG=>(j_o ⟨aG.hasK (((f.le.trans k.le).trans x.le).trans ad.le),aG.hasObj m1⟩ (jd ?_))))
     cases oi I
     exact qd ⟨aS,bo,u,aG.s,(((f.le.trans k.le).trans x.le).trans ad.le),bp,bq⟩
    refine al tf142 R fun aT cr br=>?_
    have ae:SH _ _ _ _ _ [obj aT [V6 0,V6 0] 142,_]:=br
    refine j_o ⟨ae.hasK (f.le.trans k.le),ae.hasObj m1⟩ (j1 14 u (lk co66 (ok_spec_l7Posts F ae.enter0 (l.mono ((i.le.trans f.le).trans k.le)) (o.mono ((i.le.trans f.le).trans k.le)) q G aa) ?_))
    rintro cs ct ⟨cu,cv,cw,cx,rfl,U,aU⟩
    have af:=(ae.c0 U).t2
    refine j_o ⟨af.hasK ((f.le.trans k.le).trans U.le),af.hasObj m1⟩ (jv 15 u (rv_len underlying112 u aU) (j1 16 u (lk co108 (ok_spec_l12Term F af.enter0 D.rn ab aA (l.mono i.le).rn aU.rn H) ?_)))
    rintro cy cz ⟨bs,rfl,ag,bu,bv⟩
    have aH:=(af.c0 ag).t2
    refine j_o ⟨aH.hasK (((f.le.trans k.le).trans U.le).trans ag.le),aH.hasObj m1⟩ (j1 18 u (lw [V6 s.Up,V6 s.Down] tf142 aH fun cA aI=>(j_o ⟨aI.hasK (((f.le.trans k.le).trans U.le).trans ag.le),aI.hasObj m1⟩ (jd ?_))))
    cases oi I
    exact qd ⟨aT,bs,u,aI.s,(((f.le.trans k.le).trans U.le).trans ag.le),bu,bv⟩
   refine al tf142 O fun aV cB bz=>?_
   have ah:SH _ _ _ _ _ [obj aV [V6 0,V6 0] 142,_]:=bz
   refine j_o ⟨ah.hasK f.le,ah.hasObj m1⟩ (j1 7 u (lk co110 (ok_spec_l12Total F ah.enter0 (l.mono (i.le.trans f.le)) (o.mono (i.le.trans f.le)) q az) ?_))
   rintro cC cD ⟨cE,rfl,y,bA⟩
   have ai:=(ah.c0 y).t2
   refine j_o ⟨ai.hasK (f.le.trans y.le),ai.hasObj m1⟩ (j1 14 u (lk co66 (ok_spec_l7Posts F ai.enter0 (l.mono ((i.le.trans f.le).trans y.le)) (o.mono ((i.le.trans f.le).trans y.le)) q G aa) ?_))
   rintro cF cG ⟨cH,cI,cJ,cK,rfl,V,aW⟩
   have aj:=(ai.c0 V).t2
   refine j_o ⟨aj.hasK ((f.le.trans y.le).trans V.le),aj.hasObj m1⟩ (jv 15 u (rv_len underlying112 u aW) (j1 16 u (lk co108 (ok_spec_l12Term F aj.enter0 D.rn ab bA (l.mono i.le).rn aW.rn H) ?_)))
   rintro cL cM ⟨bB,rfl,ak,bC,bD⟩
   have aJ:=(aj.c0 ak).t2
   refine j_o ⟨aJ.hasK (((f.le.trans y.le).trans V.le).trans ak.le),aJ.hasObj m1⟩ (j1 18 u (lw [V6 s.Up,V6 s.Down] tf142 aJ fun cN aK=>(j_o ⟨aK.hasK (((f.le.trans y.le).trans V.le).trans ak.le),aK.hasObj m1⟩ (jd ?_))))
   cases oi I
   exact qd ⟨aV,bB,u,aK.s,(((f.le.trans y.le).trans V.le).trans ak.le),bC,bD⟩
  refine al tf142 J fun aX cO bE=>?_
  have am:SH _ _ _ _ _ [obj aX [V6 0,V6 0] 142,_]:=bE
  refine j_o ⟨am.hasK kr,am.hasObj m1⟩ (j1 4 u (lk co109 (ok_spec_l7Long F am.enter0 (l.mono i.le) (o.mono i.le) q ar aQ) ?_))
  rintro cP cQ ⟨cR,rfl,m,bF⟩
  have an:=(am.c0 m).t2
  refine j_o ⟨an.hasK m.le,an.hasObj m1⟩ (j1 7 u (lk co110 (ok_spec_l12Total F an.enter0 (l.mono (i.le.trans m.le)) (o.mono (i.le.trans m.le)) q az) ?_))
  rintro cS cT ⟨cU,rfl,C,bG⟩
  have ao:=(an.c0 C).t2
  refine j_o ⟨ao.hasK (m.le.trans C.le),ao.hasObj m1⟩ (j1 14 u (lk co66 (ok_spec_l7Posts F ao.enter0 (l.mono ((i.le.trans m.le).trans C.le)) (o.mono ((i.le.trans m.le).trans C.le)) q G aa) ?_))
  rintro cV cW ⟨cX,cY,cZ,da,rfl,W,aY⟩
  have ap:=(ao.c0 W).t2
  refine j_o ⟨ap.hasK ((m.le.trans C.le).trans W.le),ap.hasObj m1⟩ (jv 15 u (rv_len underlying112 u aY) (j1 16 u (lk co108 (ok_spec_l12Term F ap.enter0 D.rn bF bG (l.mono i.le).rn aY.rn H) ?_)))
  rintro db dc ⟨bH,rfl,aq,bI,bJ⟩
  have aL:=(ap.c0 aq).t2
  refine j_o ⟨aL.hasK (((m.le.trans C.le).trans W.le).trans aq.le),aL.hasObj m1⟩ (j1 18 u (lw [V6 s.Up,V6 s.Down] tf142 aL fun dd aM=>(j_o ⟨aM.hasK (((m.le.trans C.le).trans W.le).trans aq.le),aM.hasObj m1⟩ (jd ?_))))
  cases oi I
  exact qd ⟨aX,bH,u,aM.s,(((m.le.trans C.le).trans W.le).trans aq.le),bI,bJ⟩
 rintro _ de ⟨ay,Y,rfl,aN,df,dg,dh⟩
 refine qr (fl ff142_0 u tf3 m0 aN u (lv (rv_mul u u) (fl ff142_1 u tf3 m0 aN u ?_)))
 obtain⟨di,aZ,bK⟩:=ob bf
 refine lv (rv_quo u u aZ) (av u (nq (wc_ret ?_)))
 cases oi bK
 exact ey results67 ⟨Y,u,aN.s,(rng_quo aZ)⟩

theorem ok_spec_l14Blocks {q0:GSeg}{q1:Str}{q2:Str}{r:(List GBlock)}(hS:SH w K [] w K [])(aa:SliceAt tGDoc K A a b q0.Docs)(ab:SliceAt tGEntry K B c d q0.Entries)(ac:q1.length≤maxLen)(ad:q2.length≤maxLen)(hm:M.spec_l14Blocks F q0 q1 q2=some r):
  Calls prog 31 #[.agg #[V3 A a b,V3 B c d],sv q1,sv q2] w fun e w'=>∃a_1 n_2 c_3 K',e= .returned (V3 a_1 n_2 c_3)∧SH w K [] w' K' [tail (V3 a_1 n_2 c_3) 73 2]∧SliceAt tGBlock K' a_1 n_2 c_3 r:=by
 rw [M.spec_l14Blocks] at hm
 refine ci func31 rfl ntmps31 (sr (bx rfl hS fun C ck aF=>?_))
 have aG:SH _ _ _ _ _ [obj C [V3 A a b,V3 B c d] 41]:=aF
 refine lv (r_n rfl) (nr (wl_buildSlice0R tGBlock wn rfl underlying32 tf73 aG fun aH cl ae=>(av rfl (nr (lv (rv_loadmS (ds:=[V3 A a b,V3 B c d]) tf41 rfl m1 ae rfl rfl) (mv rfl (mv rfl ?_)))))))
 obtain⟨cm,aI,aJ⟩:=ob hm
 refine lk co66 (ok_spec_l7Posts F ae.enter0 aa ab ac ad aI) ?_
 rintro cn cp ⟨ao,ap,aq,af,rfl,D,ag⟩
 have aK:=(ae.c0 D).t2
 refine av rfl (nsr (lv (r_0 rfl) (nq ?_)))
 obtain⟨ar,aL,aM⟩:=ob aJ
 refine wc_cutg (fun E' w'=>∃W G X cs41 Y,E'=[(7,V3 W G X)]∧SH w K [] w' Y [rowI (V3 W G X) cs41 73 2]∧KLe af Y∧RowAt true tGBlock Y cs41 ar∧G=ar.length) ?_ ?_
 ·refine wc_block ?_
  obtain⟨cq,aN,aO⟩:=ob aL
  refine qw (fun (q:(List GBlock)×Int) E' w'=>∃H s I cs55 J,E'=[(1,sv q1),(2,sv q2),(3,pt C),(7,V3 H s I),(8,V3 ao ap aq),(9,V6 q.2)]∧SH w K [] w' J [obj C [V3 A a b,V3 B c d] 41,rowI (V3 H s I) cs55 73 2]∧KLe af J∧RowAt true tGBlock J cs55 q.1∧s=q.1.length∧rng64 q.2) aN ⟨aH,0,0,[],af,rfl,aK.f1,kr,(RowAt.nil tGBlock _),rfl,d_0⟩ ?_
  rintro q _ cr ct aP aQ ⟨H,s,I,cs55,J,rfl,ah,f,hrow56,hm57,cu⟩
  refine wc_seq (sr (mv rfl (mv rfl (lv (rv_len underlying112 rfl (ag.mono f)) (lv (rv_lss rfl rfl) (nq (wcc aP rfl (fun aR ai=>?_) (fun aR ai=>?_))))))))
  ·refine wc_skip (qs (wc_block (wc_seq (wc_quiet mixed (by kernel_rfl) ah (kh (rq_loadmS (ds:=[V3 A a b,V3 B c d]) tf41 rfl m0 rfl rfl) (km rfl (km rfl (km rfl (km rfl ?_)))))))))
   obtain⟨aS,aT,aU⟩:=ob ai
   refine ki underlying112 tf119 (ag.mono f) aT fun aV aW cv aX aY=>?_
   obtain⟨aZ,ba,bb,rfl,au,cw⟩:=aX
   have bc:AtK _ aV aW [V6 aS.Doc,V3 aZ ba bb]:=aY
   refine kv (rv_fieldAddr ff119_0 rfl) (kh (rq_load1 tf3 rfl (bc 0 _ rfl)) ?_)
   obtain⟨l,aw,bd⟩:=ob aU
   refine kd co67 (fun _ _ be ax=>(ok_spec_l12Points F) be.enter0 (aa.mono ((D.le.trans f).trans ax)) (ab.mono ((D.le.trans f).trans ax)) ac ad au aw) ?_
   obtain⟨_,_,_,⟨_,_,_,bf⟩,_⟩:=(ok_spec_l12Points F) ah.enter0 (aa.mono (D.le.trans f)) (ab.mono (D.le.trans f)) ac ad au aw []
   refine kv (rv_assign rfl) (wq_nil ?_)
   rintro cx ⟨ay,az,O⟩
   refine qs (sr (mv rfl ?_))
   obtain⟨cy,bg,bh⟩:=ob bd
   refine lv (rv_rem rfl rfl bg) (lv (rv_eql rfl rfl) (nq ?_))
   obtain⟨m,bi,bj⟩:=ob bh
   refine wc_cutg (fun E' w'=>∃R x S cs104 y,E'=[(1,sv q1),(2,sv q2),(3,pt C),(7,V3 R x S),(8,V3 ao ap aq),(9,V6 q.2),(10,V6 l)]∧SH w K [] w' y [obj C [V3 A a b,V3 B c d] 41,rowI (V3 R x S) cs104 73 2]∧KLe ay y∧RowAt true tGBlock y cs104 m∧x=m.length) ?_ ?_
   ·refine wcc bi rfl (fun bk aj=>?_) (fun bk aj=>?_)
    ·refine wc_region (mv rfl (lv (rv_build (cs:=#[V6 0,V6 0]) sp73 tf73 rfl (by kernel_rfl)) (lb tGBlock (.agg #[V6 0,V6 0]) [V6 0,V6 0] (GBlock.mk (0:Int) (0:Int)) underlying32 tf73 ⟨rfl,d_0,d_0⟩ az fun cz cA bl aA bm bn=>?_)))
     obtain⟨cB,bo,bp⟩:=ob aj
     refine wl_appendR (t:=tGBlock) wn rfl underlying32 tf73 rfl rfl rfl rfl (RowAt.mono (O.trans aA) hrow56) hm57 bm bo bn.f2 fun bq br bs cs122 cC hrow124 hm125 bu=>(av rfl (wl_nil ?_))
     cases oi bp
     exact qd ⟨bq,br,bs,cs122,bl,rfl,bu.f2.s,aA,hrow124,hm125⟩
    refine wc_skip ?_
    cases oi aj
    exact qd ⟨H,s,I,cs55,ay,rfl,az,kr,(RowAt.mono O hrow56),hm57⟩
   rintro _ cD ⟨R,x,S,cs104,y,rfl,ak,al,hrow105,hm106⟩
   refine qr (mv rfl (lv (rv_lenRow underlying32 rfl hm106) (lv (rv_sub rfl rfl) (av rfl (nr (mv rfl (mv rfl (mv rfl (mv rfl ?_)))))))))
   obtain⟨o,bv,bz⟩:=ob bj
   refine li underlying112 tf119 (ag.mono ((f.trans O).trans al)) bv fun bA bB cE bC bD=>?_
   obtain⟨bE,bF,bG,rfl,bH,cF⟩:=bC
   have bI:AtK _ bA bB [V6 o.Doc,V3 bE bF bG]:=bD
   refine fa ff119_0 rfl (lv (rv_load1 tf3 rfl ak (bI 0 _ rfl)) ?_)
   obtain⟨i,T,bJ⟩:=ob bz
   obtain⟨cG,aB⟩:=SH.rowI_at ak m1 hm106 T
   obtain⟨cH,bK,bL⟩:=RowAt.at hrow105 T
   obtain⟨rfl,cI,bM⟩:=bK
   have bN: ∀(j:Nat) (d:Value),[V6 i.Last,V6 i.Most][j]? =some d→cs104[(w64 ((m.length:Int)-(1:Int))).toNat*tGBlock.size+j]? =some d:=bL
   refine lv (rv_indexI (t:=tGBlock) underlying32 tf73 rfl rfl aB hm106 T) (fa ff73_0 rfl (wl_storeI (t:=tGBlock) (off:=0) (ds:=[V6 i.Last,V6 i.Most]) (v:=V6 o.Doc) (u:=.agg #[V6 o.Doc,V6 i.Most]) (e:=(GBlock.mk o.Doc i.Most)) wn tf3 rfl rfl rfl rfl (by simp [Value.cells,Value.oneCell']) aB ak.f1 hrow105 hm106 T bN rfl rfl ⟨rfl,bH,bM⟩ fun cs155 cJ hrow157 hm158 U=>?_))
   have bO:=getI_set (e:=(GBlock.mk o.Doc i.Most)) T
   obtain⟨cK,bP,bQ⟩:=RowAt.at hrow157 bO
   obtain⟨rfl,cL,cM⟩:=bP
   have cN: ∀(j:Nat) (d:Value),[V6 ((GBlock.mk o.Doc i.Most).Last),V6 ((GBlock.mk o.Doc i.Most).Most)][j]? =some d→cs155[(w64 ((m.length:Int)-(1:Int))).toNat*tGBlock.size+j]? =some d:=bQ
   refine nr (mv rfl (mv rfl (mv rfl ?_)))
   obtain⟨aC,am,bR⟩:=ob bJ
   obtain⟨cO,aD⟩:=SH.rowI_at U m0 hm158 am
   obtain⟨cP,bS,bT⟩:=RowAt.at hrow157 am
   obtain⟨rfl,cQ,cR⟩:=bS
   have bU: ∀(j:Nat) (d:Value),[V6 aC.Last,V6 aC.Most][j]? =some d→cs155[(w64 ((m.length:Int)-(1:Int))).toNat*tGBlock.size+j]? =some d:=bT
   refine lv (rv_indexI (t:=tGBlock) underlying32 tf73 rfl rfl aD hm158 am) (fa ff73_1 rfl (lv (rh_loadI1 tf3 rfl rfl (bU 1 _ rfl) aD (SH.hasRow U (.head _))) (lv (rv_gtr rfl rfl) (nq (wcc bR rfl (fun bV an=>?_) (fun bV an=>?_))))))
   ·refine wc_region (mv rfl (mv rfl (mv rfl ?_)))
    obtain⟨k,V,bW⟩:=ob an
    obtain⟨cS,aE⟩:=SH.rowI_at U m0 hm158 V
    obtain⟨cT,bX,bY⟩:=RowAt.at hrow157 V
    obtain⟨rfl,bZ,cU⟩:=bX
    have ca: ∀(j:Nat) (d:Value),[V6 k.Last,V6 k.Most][j]? =some d→cs155[(w64 ((m.length:Int)-(1:Int))).toNat*tGBlock.size+j]? =some d:=bY
    refine lv (rv_indexI (t:=tGBlock) underlying32 tf73 rfl rfl aE hm158 V) (fa ff73_1 rfl (wl_storeI (t:=tGBlock) (off:=1) (ds:=[V6 k.Last,V6 k.Most]) (v:=V6 l) (u:=.agg #[V6 k.Last,V6 l]) (e:=(GBlock.mk k.Last l)) wn tf3 rfl rfl rfl rfl (by simp [Value.cells,Value.oneCell']) aE U hrow157 hm158 V ca rfl rfl ⟨rfl,bZ,bf⟩ fun cs191 cV hrow193 hm194 cb=>?_))
    have cc:=getI_set (e:=(GBlock.mk k.Last l)) V
    obtain⟨cW,cd,ce⟩:=RowAt.at hrow193 cc
    obtain⟨rfl,cX,cY⟩:=cd
    have cZ: ∀(j:Nat) (d:Value),[V6 ((GBlock.mk k.Last l).Last),V6 ((GBlock.mk k.Last l).Most)][j]? =some d→cs191[(w64 ((m.length:Int)-(1:Int))).toNat*tGBlock.size+j]? =some d:=ce
    refine nb (qe_seq (wc_region (mv rfl (lv (rv_add rfl rfl) (av rfl (wl_nil ?_))))))
    cases oi bW
    exact qd ⟨_,rfl,R,x,S,cs191,y,rfl,cb.f1,((f.trans O).trans al),hrow193,hm194,(w64_rng _)⟩
   refine wc_skip (qe_block (qe_seq (wc_region (mv rfl (lv (rv_add rfl rfl) (av rfl (wl_nil ?_)))))))
   cases oi an
   exact qd ⟨_,rfl,R,x,S,cs155,y,rfl,U.f1,((f.trans O).trans al),hrow157,hm158,(w64_rng _)⟩
  refine wc_exit (qe_then_exit (qe_then_exit ?_))
  cases oi ai
  cases aQ _ rfl
  refine qe_block_eq ?_
  cases oi aO
  exact qd ⟨H,s,I,cs55,J,rfl,ah.s,f,hrow56,hm57⟩
 rintro _ da ⟨W,G,X,cs41,Y,rfl,cf,db,hrow42,hm43⟩
 refine qr (mv rfl (av rfl (nq (wc_ret ?_))))
 obtain⟨cg,dc,ch,cj⟩:=SH.freezeI cf hrow42 hm43
 cases oi aM
 exact ey results31 ⟨W,G,X,cg,rfl,cj,ch⟩

theorem ok_laws_toStringS {q0:List Str}{r:(List Str)}(hS:SH w K [] w K [])(s:SliceAt tStr K A a b q0)(hm:M.laws_toStringS F q0=some r):
  Calls prog 20 #[V3 A a b] w fun e w'=>∃a_1 n_2 c_3 K',e= .returned (V3 a_1 n_2 c_3)∧SH w K [] w' K' [tail (V3 a_1 n_2 c_3) 9 1]∧SliceAt tStr K' a_1 n_2 c_3 r:=by
 rw [M.laws_toStringS] at hm
 refine ci func20 u ntmps20 (sr (lv (r_n u) (nr (mv u (lv (rv_len underlying22 u s) ?_)))))
 obtain⟨H,I,J⟩:=ob hm
 refine wl_make (t:=tStr) wn u underlying22 tf9 u u u I ⟨u,(by decide :([]:Str).length≤maxLen)⟩ hS fun k cs9 ao hmx13 hrow11 O=>?_
 obtain⟨m14,hm15⟩: ∃m,m=H.length:=⟨_,u⟩
 rw [←hm15] at hmx13
 rw [←hm15]
 refine av u (nsr (lv (r_0 u) (nq ?_)))
 obtain⟨C,R,S⟩:=ob J
 refine wc_cutg (fun E' w'=>∃cs23 l,E'=[(3,V3 (some ⟨k,0,none⟩) m14 m14)]∧SH w K [] w' l [obj k cs23 9]∧KLe K l∧RowAt true tStr l cs23 C∧m14=C.length) ?_ ?_
 ·refine wc_block ?_
  obtain⟨ap,T,U⟩:=ob R
  refine qw (fun (c:Int×(List Str)) E' w'=>∃cs36 f,E'=[(0,V3 A a b),(3,V3 (some ⟨k,0,none⟩) m14 m14),(4,V6 c.1)]∧SH w K [] w' f [obj k cs36 9]∧KLe K f∧rng64 c.1∧RowAt true tStr f cs36 c.2∧m14=c.2.length) T ⟨cs9,K,u,O,kr,d_0,hrow11,hm15⟩ ?_
  rintro c _ aq ar V W ⟨cs36,f,rfl,x,o,au,hrow37,hm38⟩
  refine wc_seq (sr (mv u (mv u (lv (rv_len underlying22 u (s.mono o)) (lv (rv_lss u u) (nq (wcc V u (fun X y=>?_) (fun X y=>?_))))))))
  ·refine wc_skip (qs (wc_block (wc_region (mv u (mv u (mv u (mv u ?_)))))))
   obtain⟨q,Y,aa⟩:=ob y
   refine li underlying22 tf9 (s.mono o) Y fun ab ac aw ad ae=>?_
   obtain⟨rfl,af⟩:=ad
   have ag:AtK _ ab ac [sv q]:=ae
   refine lv (rv_load1 tf9 u x (ag 0 _ u)) ?_
   obtain⟨ah,B,ai⟩:=ob aa
   obtain⟨ax,aj,ak⟩:=RowAt.at hrow37 B
   obtain⟨rfl,ay⟩:=aj
   have az: ∀(j:Nat) (d:Value),[sv ah][j]? =some d→cs36[c.1.toNat*tStr.size+j]? =some d:=ak
   refine lv (rv_indexRow (t:=tStr) underlying22 tf9 u u hm38 B) (wl_storeRow (t:=tStr) (v:=sv q) (e:=q) wn tf9 u u ⟨u,af⟩ x hrow37 B fun cs62 aA hrow64 al=>?_)
   have hm66:=hm38.trans (List.length_set (i:=c.1.toNat) (a:=q)).symm
   refine nb (qe_seq (wc_region (mv u (lv (rv_add u u) (av u (wl_nil ?_))))))
   cases oi ai
   exact qd ⟨_,u,cs62,f,u,al,o,(w64_rng _),hrow64,hm66⟩
  refine wc_exit (qe_then_exit (qe_then_exit ?_))
  cases oi y
  cases W _ u
  refine qe_block_eq ?_
  cases oi U
  exact qd ⟨cs36,f,u,x,o,hrow37,hm38⟩
 rintro _ aB ⟨cs23,l,rfl,am,aC,hrow24,hm25⟩
 refine qr (mv u (av u (nq (wc_ret ?_))))
 obtain⟨an,aD,D,G⟩:=SH.freeze am hrow24 (row_max hm25 hmx13)
 rw [←hm25] at D G
 cases oi S
 exact ey results20 ⟨(some ⟨k,0,none⟩),m14,m14,an,u,G,D⟩

theorem bag_laws_toStringS (F:Nat){w:World}{K:KMap}{a1:Option Addr}{n2 c3:Nat}{p0_a:List Str}{r:(List Str)}(hS:SH w K [] w K [])(hs4:SliceAt tStr K a1 n2 c3 p0_a)(hm:M.laws_toStringS F p0_a=some r):
  Calls Tryz.prog 20 #[.slice a1 n2 c3] w fun e w'=>∃(a_1:Option Addr) (n_2 c_3:Nat) (K':KMap) (B':List Nat),e= .returned (.slice a_1 n_2 c_3)∧SH w K [] w' K' [bag B']∧SliceAt tStr (K'.only B') a_1 n_2 c_3 r:=
 (ok_laws_toStringS F hS hs4 hm).mono fun e w' ⟨a,n,c,K',he,hS',hs'⟩=>
  let ⟨B,hB,hb⟩:=SH.bagTail hS'
  ⟨a,n,c,K',B,he,hB,SliceAt.only_flat (t:=tStr) (fun h=>h) hs' hb⟩

theorem bag_laws_toSyn (F:Nat){w:World}{K:KMap}{a1:Option Addr}{n2 c3:Nat}{p0_a:GSyn}{r:GSyn}(hS:SH w K [] w K [])(hs4:SliceAt tStr K a1 n2 c3 p0_a.From)(hl5:p0_a.To.length≤maxLen)(hm:M.laws_toSyn F p0_a=some r):
  Calls Tryz.prog 68 #[.agg #[.slice a1 n2 c3,sv p0_a.To]] w fun e w'=>∃(a_1:Option Addr) (n_2 c_3:Nat) (K':KMap) (B':List Nat),e= .returned (.agg #[.slice a_1 n_2 c_3,sv r.To])∧SH w K [] w' K' [bag B']∧SliceAt tStr (K'.only B') a_1 n_2 c_3 r.From∧r.To.length≤maxLen:=by
 rw [M.laws_toSyn] at hm
 refine calls_in Tryz.func68 u Tryz.ntmps68 u ?_
 refine sr ?_
 refine wl_box wn u u hS ?_
 intro g6 w7 hS8
 have hS9:SH _ _ _ _ _ [obj g6 [.slice a1 n2 c3,sv p0_a.To] 98]:=hS8
 refine wl_alloc wn u tf120 hS9 ?_
 intro g10 w11 hS12
 have hS13:SH _ _ _ _ _ [obj g10 [.slice none 0 0,sv []] 120,_]:=hS12
 refine nr ?_
 refine wl_alloc wn u tf120 hS13 ?_
 intro g14 w15 hS16
 have hS17:SH _ _ _ _ _ [obj g14 [.slice none 0 0,sv []] 120,_,_]:=hS16
 refine nr ?_
 refine wl_val wn u (rv_fieldAddr ff98_0 u) ?_
 refine wl_val wn u (rv_loadm1 tf22 u (.tail _ (.tail _ (.head _))) hS17 u) ?_
 obtain⟨r18,hx19,h20⟩:=ob hm
 refine wl_call wn u (rt_call (vs:=[.slice a1 n2 c3]) co20 u) ((bag_laws_toStringS F) hS17.enter0 hs4 hx19) ?_
 rintro e28 w22 ⟨a24,n25,c26,K21,B21,rfl,hS23,hs27⟩
 refine⟨_,u,?_⟩
 have hS29:SH _ _ _ _ _ [_,_,_,_]:=SH.call0 hS17 hS23
 refine wl_val wn u (rv_fieldAddr ff120_0 u) ?_
 have hS30:SH _ _ _ _ _ [_,_,_,_]:=SH.front (p:=[_]) hS29
 refine wl_store (cs':=[.slice a24 n25 c26,sv []]) (v:=.slice a24 n25 c26) wn tf22 u u u (by simp [Value.cells,Value.oneCell']) hS30 u u ?_
 intro w31 hS32
 refine nr ?_
 refine wl_val wn u (rv_fieldAddr ff98_1 u) ?_
 refine wl_val wn u (rv_loadm1 tf9 u (.tail _ (.tail _ (.tail _ (.head _)))) hS32 u) ?_
 refine wl_val wn u (rv_fieldAddr ff120_1 u) ?_
 refine wl_store (cs':=[.slice a24 n25 c26,sv p0_a.To]) (v:=sv p0_a.To) wn tf9 u u u (by simp [Value.cells,Value.oneCell',sv]) hS32 u u ?_
 intro w33 hS34
 refine nr ?_
 refine wl_val wn u (rv_loadmS (ds:=[.slice a24 n25 c26,sv p0_a.To]) tf120 u (.head _) hS34 u u) ?_
 have hS35:SH _ _ _ _ _ [_,_,_,_]:=SH.front (p:=[_,_]) hS34
 refine wl_store (cs':=[.slice a24 n25 c26,sv p0_a.To]) (v:=.agg #[.slice a24 n25 c26,sv p0_a.To]) wn tf120 u u u (by simp [Value.cells,Value.oneCell',sv]) hS35 u u ?_
 intro w36 hS37
 refine nq ?_
 refine wc_ret ?_
 obtain rfl:=oi h20
 have hS38:SH _ _ _ _ _ [_]:=SH.sublist hS37 (.cons _ (.cons _ (.cons_cons _ (.cons _ .slnil))))
 exact qe_ret (vs:=[_]) Tryz.results68 ⟨⟨_,_,u,run_loadVar_at tf120 (cs:=[.slice a24 n25 c26,sv p0_a.To]) (fun j c e=>by rw [Nat.zero_add,hS37.mem_obj (.head _)];exact e) (.inl ⟨u,u,u⟩)⟩,trivial⟩ ⟨a24,n25,c26,K21,B21,u,hS38,(SliceAt.mono (only_mono (KLe.refl _) fun _ h=>h) hs27),hl5⟩

theorem bag_laws_toSynS (F:Nat){w:World}{K:KMap}{a1:Option Addr}{n2 c3:Nat}{p0_a:List GSyn}{r:(List GSyn)}(hS:SH w K [] w K [])(hs4:SliceAt tGSyn K a1 n2 c3 p0_a)(hm:M.laws_toSynS F p0_a=some r):
  Calls Tryz.prog 32 #[.slice a1 n2 c3] w fun e w'=>∃(a_1:Option Addr) (n_2 c_3:Nat) (K':KMap) (B':List Nat),e= .returned (.slice a_1 n_2 c_3)∧SH w K [] w' K' [bag B']∧SliceAt tGSyn (K'.only B') a_1 n_2 c_3 r:=by
 rw [M.laws_toSynS] at hm
 refine calls_in Tryz.func32 u Tryz.ntmps32 u ?_
 refine sr ?_
 refine wl_val wn u (rv_assign (v:=.slice none 0 0) u) ?_
 refine nr ?_
 refine vm u u ?_
 refine wl_val wn u (rv_len (t:=tGSyn) Tryz.underlying23 u hs4) ?_
 obtain⟨x5,hx6,h7⟩:=ob hm
 refine wl_make (t:=Ty.fix tGSyn (K.only [])) wn u Tryz.underlying34 tf120 u u u hx6 ⟨none,0,0,u,(SliceAt.nil _ _),(by decide :([]:Str).length≤maxLen)⟩ hS ?_
 intro g8 cs9 w10 hmx13 hrow11 hS12
 obtain⟨m14,hm15⟩: ∃m,m=x5.length:=⟨_,u⟩
 rw [←hm15] at hmx13
 rw [←hm15]
 refine va u u ?_
 refine nsr ?_
 refine wl_val wn u (rv_assign (v:=.int .i64 0) u) ?_
 refine nq ?_
 obtain⟨o16,h17,h18⟩:=ob h7
 refine wc_cutg (fun E' w'=>∃(cs23:List Value) (K19:KMap) (B19:List Nat),E'=[(3,.slice (some ⟨g8,0,none⟩) m14 m14)]∧SH w K [] w' K19 [obj g8 cs23 120,bag B19]∧KLe K K19∧RowAt true tGSyn (K19.only B19) cs23 o16∧m14=o16.length) ?_ ?_
 ·refine wc_block ?_
  obtain⟨r27,h28,h29⟩:=ob h17
  refine wc_while' (fun (s26:Int×(List GSyn)) E' w'=>∃(cs36:List Value) (K30:KMap) (B30:List Nat),E'=[(0,.slice a1 n2 c3),(3,.slice (some ⟨g8,0,none⟩) m14 m14),(4,.int .i64 s26.1)]∧SH w K [] w' K30 [obj g8 cs36 120,bag B30]∧KLe K K30∧rng64 s26.1∧RowAt true tGSyn (K30.only B30) cs36 s26.2∧m14=s26.2.length) h28 ⟨cs9,K,[],u,(SH.perm (SH.bag0 hS12) (List.Perm.swap _ _ _)),(KLe.refl _),d_0,hrow11,hm15⟩ ⟨u,u,u,trivial⟩ ?_
  rintro s26 _ w33 r39 h40 hx41 ⟨cs36,K30,B30,rfl,hS34,hl31,hr35,hrow37,hm38⟩
  refine wc_seq ?_
  refine sr ?_
  refine vm u u ?_
  refine vm u u ?_
  refine wl_val wn u (rv_len (t:=tGSyn) Tryz.underlying23 u (SliceAt.mono hl31 hs4)) ?_
  refine wl_val wn u (rv_lss u u) ?_
  refine nq ?_
  refine wc_cond u (fun hb42=>?_) (fun hb42=>?_)
  ·have h43:=cond_t hb42 h40
   refine wc_skip ?_
   refine qs ?_
   refine wc_block ?_
   refine wc_region ?_
   refine vm u u ?_
   refine vm u u ?_
   refine vm u u ?_
   refine vm u u ?_
   obtain⟨x44,hx45,h46⟩:=ob h43
   refine wl_indexAddr (t:=tGSyn) wn u Tryz.underlying23 tf98 u u (SliceAt.mono hl31 hs4) hx45 ?_
   intro b47 o48 u49 hu50 ha51
   obtain⟨a52,n53,c54,rfl,hs55,hl56⟩:=hu50
   have ha57:AtK _ b47 o48 [.slice a52 n53 c54,sv x44.To]:=ha51
   refine wl_val wn u (rv_loadS (cs:=[.slice a52 n53 c54,sv x44.To]) tf98 u hS34 ha57 u) ?_
   obtain⟨r58,hx59,h60⟩:=ob h46
   refine wl_call wn u (rt_call (vs:=[.agg #[.slice a52 n53 c54,sv x44.To]]) co68 u) ((bag_laws_toSyn F) hS34.enter0 hs55 hl56 hx59) ?_
   rintro e69 w62 ⟨a64,n65,c66,K61,B61,rfl,hS63,hs67,hl68⟩
   refine⟨_,u,?_⟩
   have hS70:SH _ _ _ _ _ [_,_]:=SH.bagJoin (SH.perm (SH.call0 hS34 hS63) (List.Perm.cons _ (List.Perm.swap _ _ _)))
   obtain⟨x71,hx72,h73⟩:=ob h60
   obtain⟨u74,hu75,hk76⟩:=RowAt.at (RowAt.mono (only_mono hS63.le fun _ h=>h) hrow37) hx72
   obtain⟨a78,n79,c80,rfl,hs81,hl82⟩:=hu75
   have hk77: ∀(j:Nat) (d:Value),[.slice a78 n79 c80,sv x71.To][j]? =some d→cs36[s26.1.toNat*tGSyn.size+j]? =some d:=hk76
   refine wl_val wn u (rv_indexRow (t:=tGSyn) Tryz.underlying34 tf120 u u hm38 hx72) ?_
   have hS83:SH _ _ _ _ _ [_,_]:=SH.front (p:=[_]) hS70
   refine wl_storeRow (t:=Ty.fix tGSyn (K61.only (B61++B30))) (v:=.agg #[.slice a64 n65 c66,sv r58.To]) (e:=r58) wn tf120 u u ⟨a64,n65,c66,u,(SliceAt.mono (only_mono (KLe.refl _) fun _ h=>List.mem_append_left _ h) hs67),hl68⟩ hS83 (show RowAt true tGSyn (K61.only (B61++B30)) _ _ from RowAt.mono (only_mono hS63.le fun _ h=>List.mem_append_right _ h) hrow37) hx72 ?_
   intro cs84 w85 hrow86 hS87
   have hm88:=hm38.trans (List.length_set (i:=s26.1.toNat) (a:=r58)).symm
   refine nb ?_
   refine qe_seq ?_
   refine wc_region ?_
   refine vm u u ?_
   refine wl_val wn u (rv_add u u) ?_
   refine va u u ?_
   refine wl_nil ?_
   obtain rfl:=oi h73
   have hS89:=hS87
   exact qe_mid' ⟨_,u,cs84,K61,(B61++B30),u,hS89,(hl31.trans hS63.le),(w64_rng _),hrow86,hm88⟩ ⟨u,u,u,trivial⟩
  ·have h43:=cond_f hb42 h40
   refine wc_exit ?_
   refine qe_then_exit ?_
   refine qe_then_exit ?_
   obtain rfl:=oi h43
   have e90:=hx41 _ u
   subst e90
   refine qe_block_eq ?_
   obtain rfl:=oi h29
   exact qe_mid' ⟨cs36,K30,B30,u,hS34,hl31,hrow37,hm38⟩ ⟨u,trivial⟩
 ·rintro _ w21 ⟨cs23,K19,B19,rfl,hS22,hl20,hrow24,hm25⟩
  refine qr ?_
  refine vm u u ?_
  refine va u u ?_
  refine nq ?_
  refine wc_ret ?_
  obtain⟨K91,hl92,hs93,hS94⟩:=SH.freeze (t:=Ty.fix tGSyn (K19.only B19)) hS22 hrow24 (row_max hm25 hmx13)
  rw [←hm25] at hs93 hS94
  obtain rfl:=oi h18
  obtain⟨Bz,hSz,hBz⟩:=SH.bagTail hS94
  exact qe_ret (vs:=[_]) Tryz.results32 ⟨u,trivial⟩ ⟨(some ⟨g8,0,none⟩),m14,m14,K91,(Bz++B19),u,SH.bagJoin hSz,SliceAt.unfix hs93 (only_mono hl92 fun _ h=>List.mem_append_right _ h) (fun hc b o e=>List.mem_append_left _ (hBz hc b o e))⟩

theorem bag_laws_toConf (F:Nat){w:World}{K:KMap}{a1:Option Addr}{n2 c3:Nat}{a5:Option Addr}{n6 c7:Nat}{p0_a:GConf}{r:GConf}(hS:SH w K [] w K [])(hs4:SliceAt tStr K a1 n2 c3 p0_a.Stops)(hs8:SliceAt tGSyn K a5 n6 c7 p0_a.Syns)(hm:M.laws_toConf F p0_a=some r):
  Calls Tryz.prog 8 #[.agg #[.slice a1 n2 c3,.slice a5 n6 c7]] w fun e w'=>∃(a_1:Option Addr) (n_2 c_3:Nat) (a_5:Option Addr) (n_6 c_7:Nat) (K':KMap) (B':List Nat),e= .returned (.agg #[.slice a_1 n_2 c_3,.slice a_5 n_6 c_7])∧SH w K [] w' K' [bag B']∧SliceAt tStr (K'.only B') a_1 n_2 c_3 r.Stops∧SliceAt tGSyn (K'.only B') a_5 n_6 c_7 r.Syns:=by
 rw [M.laws_toConf] at hm
 refine calls_in Tryz.func8 u Tryz.ntmps8 u ?_
 refine sr ?_
 refine wl_box wn u u hS ?_
 intro g9 w10 hS11
 have hS12:SH _ _ _ _ _ [obj g9 [.slice a1 n2 c3,.slice a5 n6 c7] 25]:=hS11
 refine wl_alloc wn u tf36 hS12 ?_
 intro g13 w14 hS15
 have hS16:SH _ _ _ _ _ [obj g13 [.slice none 0 0,.slice none 0 0] 36,_]:=hS15
 refine nr ?_
 refine wl_alloc wn u tf36 hS16 ?_
 intro g17 w18 hS19
 have hS20:SH _ _ _ _ _ [obj g17 [.slice none 0 0,.slice none 0 0] 36,_,_]:=hS19
 refine nr ?_
 refine wl_val wn u (rv_fieldAddr ff25_0 u) ?_
 refine wl_val wn u (rv_loadm1 tf22 u (.tail _ (.tail _ (.head _))) hS20 u) ?_
 obtain⟨r21,hx22,h23⟩:=ob hm
 refine wl_call wn u (rt_call (vs:=[.slice a1 n2 c3]) co20 u) ((bag_laws_toStringS F) hS20.enter0 hs4 hx22) ?_
 rintro e31 w25 ⟨a27,n28,c29,K24,B24,rfl,hS26,hs30⟩
 refine⟨_,u,?_⟩
 have hS32:SH _ _ _ _ _ [_,_,_,_]:=SH.call0 hS20 hS26
 refine wl_val wn u (rv_fieldAddr ff36_0 u) ?_
 have hS33:SH _ _ _ _ _ [_,_,_,_]:=SH.front (p:=[_]) hS32
 refine wl_store (cs':=[.slice a27 n28 c29,.slice none 0 0]) (v:=.slice a27 n28 c29) wn tf22 u u u (by simp [Value.cells,Value.oneCell']) hS33 u u ?_
 intro w34 hS35
 refine nr ?_
 refine wl_val wn u (rv_fieldAddr ff25_1 u) ?_
 refine wl_val wn u (rv_loadm1 tf23 u (.tail _ (.tail _ (.tail _ (.head _)))) hS35 u) ?_
 obtain⟨r36,hx37,h38⟩:=ob h23
 refine wl_call wn u (rt_call (vs:=[.slice a5 n6 c7]) co32 u) ((bag_laws_toSynS F) hS35.enter0 (SliceAt.mono hS26.le hs8) hx37) ?_
 rintro e46 w40 ⟨a42,n43,c44,K39,B39,rfl,hS41,hs45⟩
 refine⟨_,u,?_⟩
 have hS47:SH _ _ _ _ _ [_,_,_,_,_]:=SH.call0 hS35 hS41
 refine wl_val wn u (rv_fieldAddr ff36_1 u) ?_
 have hS48:SH _ _ _ _ _ [_,_,_,_,_]:=SH.front (p:=[_]) hS47
 refine wl_store (cs':=[.slice a27 n28 c29,.slice a42 n43 c44]) (v:=.slice a42 n43 c44) wn tf34 u u u (by simp [Value.cells,Value.oneCell']) hS48 u u ?_
 intro w49 hS50
 refine nr ?_
 refine wl_val wn u (rv_loadmS (ds:=[.slice a27 n28 c29,.slice a42 n43 c44]) tf36 u (.head _) hS50 u u) ?_
 have hS51:SH _ _ _ _ _ [_,_,_,_,_]:=SH.front (p:=[_,_,_]) hS50
 refine wl_store (cs':=[.slice a27 n28 c29,.slice a42 n43 c44]) (v:=.agg #[.slice a27 n28 c29,.slice a42 n43 c44]) wn tf36 u u u (by simp [Value.cells,Value.oneCell']) hS51 u u ?_
 intro w52 hS53
 refine nq ?_
 refine wc_ret ?_
 obtain rfl:=oi h38
 have hS54:SH _ _ _ _ _ [_,_,_,_,_]:=SH.front (p:=[_,_]) hS53
 have hS55:SH _ _ _ _ _ [_,_,_,_,_]:=SH.front (p:=[_,_,_]) hS54
 have hS56:SH _ _ _ _ _ [_,_]:=SH.sublist hS55 (.cons_cons _ (.cons_cons _ (.cons _ (.cons _ (.cons _ .slnil)))))
 exact qe_ret (vs:=[_]) Tryz.results8 ⟨⟨_,_,u,run_loadVar_at tf36 (cs:=[.slice a27 n28 c29,.slice a42 n43 c44]) (fun j c e=>by rw [Nat.zero_add,hS53.mem_obj (.head _)];exact e) (.inl ⟨u,u,u⟩)⟩,trivial⟩ ⟨a27,n28,c29,a42,n43,c44,K39,(B24++B39),u,SH.bagJoin hS56,(SliceAt.mono (only_mono hS41.le fun _ h=>List.mem_append_left _ h) hs30),(SliceAt.mono (only_mono (KLe.refl _) fun _ h=>List.mem_append_right _ h) hs45)⟩

theorem ok_laws_toIntS {q0:List Int}{r:(List Int)}(hS:SH w K [] w K [])(s:SliceAt tInt K A a b q0)(hm:M.laws_toIntS F q0=some r):
  Calls prog 178 #[V3 A a b] w fun e w'=>∃a_1 n_2 c_3 K',e= .returned (V3 a_1 n_2 c_3)∧SH w K [] w' K' [tail (V3 a_1 n_2 c_3) 3 1]∧SliceAt tInt K' a_1 n_2 c_3 r:=by
 rw [M.laws_toIntS] at hm
 refine ci func178 u ntmps178 (sr (lv (r_n u) (nr (mv u (lv (rv_len underlying117 u s) ?_)))))
 obtain⟨H,I,J⟩:=ob hm
 refine wl_make (t:=tInt) wn u underlying117 tf3 u u u I ⟨u,d_0⟩ hS fun k cs9 ao hmx13 hrow11 O=>?_
 obtain⟨m14,hm15⟩: ∃m,m=H.length:=⟨_,u⟩
 rw [←hm15] at hmx13
 rw [←hm15]
 refine av u (nsr (lv (r_0 u) (nq ?_)))
 obtain⟨C,R,S⟩:=ob J
 refine wc_cutg (fun E' w'=>∃cs23 l,E'=[(3,V3 (some ⟨k,0,none⟩) m14 m14)]∧SH w K [] w' l [obj k cs23 3]∧KLe K l∧RowAt true tInt l cs23 C∧m14=C.length) ?_ ?_
 ·refine wc_block ?_
  obtain⟨ap,T,U⟩:=ob R
  refine qw (fun (c:Int×(List Int)) E' w'=>∃cs36 f,E'=[(0,V3 A a b),(3,V3 (some ⟨k,0,none⟩) m14 m14),(4,V6 c.1)]∧SH w K [] w' f [obj k cs36 3]∧KLe K f∧rng64 c.1∧RowAt true tInt f cs36 c.2∧m14=c.2.length) T ⟨cs9,K,u,O,kr,d_0,hrow11,hm15⟩ ?_
  rintro c _ aq ar V W ⟨cs36,f,rfl,x,o,au,hrow37,hm38⟩
  refine wc_seq (sr (mv u (mv u (lv (rv_len underlying117 u (s.mono o)) (lv (rv_lss u u) (nq (wcc V u (fun X y=>?_) (fun X y=>?_))))))))
  ·refine wc_skip (qs (wc_block (wc_region (mv u (mv u (mv u (mv u ?_)))))))
   obtain⟨q,Y,aa⟩:=ob y
   refine li underlying117 tf3 (s.mono o) Y fun ab ac aw ad ae=>?_
   obtain⟨rfl,af⟩:=ad
   have ag:AtK _ ab ac [V6 q]:=ae
   refine lv (rv_load1 tf3 u x (ag 0 _ u)) ?_
   obtain⟨ah,B,ai⟩:=ob aa
   obtain⟨ax,aj,ak⟩:=RowAt.at hrow37 B
   obtain⟨rfl,ay⟩:=aj
   have az: ∀(j:Nat) (d:Value),[V6 ah][j]? =some d→cs36[c.1.toNat*tInt.size+j]? =some d:=ak
   refine lv (rv_indexRow (t:=tInt) underlying117 tf3 u u hm38 B) (wl_storeRow (t:=tInt) (v:=V6 q) (e:=q) wn tf3 u u ⟨u,af⟩ x hrow37 B fun cs62 aA hrow64 al=>?_)
   have hm66:=hm38.trans (List.length_set (i:=c.1.toNat) (a:=q)).symm
   refine nb (qe_seq (wc_region (mv u (lv (rv_add u u) (av u (wl_nil ?_))))))
   cases oi ai
   exact qd ⟨_,u,cs62,f,u,al,o,(w64_rng _),hrow64,hm66⟩
  refine wc_exit (qe_then_exit (qe_then_exit ?_))
  cases oi y
  cases W _ u
  refine qe_block_eq ?_
  cases oi U
  exact qd ⟨cs36,f,u,x,o,hrow37,hm38⟩
 rintro _ aB ⟨cs23,l,rfl,am,aC,hrow24,hm25⟩
 refine qr (mv u (av u (nq (wc_ret ?_))))
 obtain⟨an,aD,D,G⟩:=SH.freeze am hrow24 (row_max hm25 hmx13)
 rw [←hm25] at D G
 cases oi S
 exact ey results178 ⟨(some ⟨k,0,none⟩),m14,m14,an,u,G,D⟩

theorem bag_laws_toIntS (F:Nat){w:World}{K:KMap}{a1:Option Addr}{n2 c3:Nat}{p0_a:List Int}{r:(List Int)}(hS:SH w K [] w K [])(hs4:SliceAt tInt K a1 n2 c3 p0_a)(hm:M.laws_toIntS F p0_a=some r):
  Calls Tryz.prog 178 #[.slice a1 n2 c3] w fun e w'=>∃(a_1:Option Addr) (n_2 c_3:Nat) (K':KMap) (B':List Nat),e= .returned (.slice a_1 n_2 c_3)∧SH w K [] w' K' [bag B']∧SliceAt tInt (K'.only B') a_1 n_2 c_3 r:=
 (ok_laws_toIntS F hS hs4 hm).mono fun e w' ⟨a,n,c,K',he,hS',hs'⟩=>
  let ⟨B,hB,hb⟩:=SH.bagTail hS'
  ⟨a,n,c,K',B,he,hB,SliceAt.only_flat (t:=tInt) (fun h=>h) hs' hb⟩

theorem bag_laws_toPost (F:Nat){w:World}{K:KMap}{a2:Option Addr}{n3 c4:Nat}{p0_a:GPost}{r:GPost}(hS:SH w K [] w K [])(hr1:rng64 p0_a.Doc)(hs5:SliceAt tInt K a2 n3 c4 p0_a.At)(hm:M.laws_toPost F p0_a=some r):
  Calls Tryz.prog 155 #[.agg #[.int .i64 p0_a.Doc,.slice a2 n3 c4]] w fun e w'=>∃(a_2:Option Addr) (n_3 c_4:Nat) (K':KMap) (B':List Nat),e= .returned (.agg #[.int .i64 r.Doc,.slice a_2 n_3 c_4])∧SH w K [] w' K' [bag B']∧rng64 r.Doc∧SliceAt tInt (K'.only B') a_2 n_3 c_4 r.At:=by
 rw [M.laws_toPost] at hm
 refine calls_in Tryz.func155 u Tryz.ntmps155 u ?_
 refine sr ?_
 refine wl_box wn u u hS ?_
 intro g6 w7 hS8
 have hS9:SH _ _ _ _ _ [obj g6 [.int .i64 p0_a.Doc,.slice a2 n3 c4] 206]:=hS8
 refine wl_alloc wn u tf119 hS9 ?_
 intro g10 w11 hS12
 have hS13:SH _ _ _ _ _ [obj g10 [.int .i64 0,.slice none 0 0] 119,_]:=hS12
 refine nr ?_
 refine wl_alloc wn u tf119 hS13 ?_
 intro g14 w15 hS16
 have hS17:SH _ _ _ _ _ [obj g14 [.int .i64 0,.slice none 0 0] 119,_,_]:=hS16
 refine nr ?_
 refine wl_val wn u (rv_fieldAddr ff206_0 u) ?_
 refine wl_val wn u (rv_loadm1 tf3 u (.tail _ (.tail _ (.head _))) hS17 u) ?_
 refine wl_val wn u (rv_fieldAddr ff119_0 u) ?_
 refine wl_store (cs':=[.int .i64 p0_a.Doc,.slice none 0 0]) (v:=.int .i64 p0_a.Doc) wn tf3 u u u (by simp [Value.cells,Value.oneCell']) hS17 u u ?_
 intro w18 hS19
 refine nr ?_
 refine wl_val wn u (rv_fieldAddr ff206_1 u) ?_
 refine wl_val wn u (rv_loadm1 tf117 u (.tail _ (.tail _ (.head _))) hS19 u) ?_
 obtain⟨r20,hx21,h22⟩:=ob hm
 refine wl_call wn u (rt_call (vs:=[.slice a2 n3 c4]) co178 u) ((bag_laws_toIntS F) hS19.enter0 hs5 hx21) ?_
 rintro e30 w24 ⟨a26,n27,c28,K23,B23,rfl,hS25,hs29⟩
 refine⟨_,u,?_⟩
 have hS31:SH _ _ _ _ _ [_,_,_,_]:=SH.call0 hS19 hS25
 refine wl_val wn u (rv_fieldAddr ff119_1 u) ?_
 have hS32:SH _ _ _ _ _ [_,_,_,_]:=SH.front (p:=[_]) hS31
 refine wl_store (cs':=[.int .i64 p0_a.Doc,.slice a26 n27 c28]) (v:=.slice a26 n27 c28) wn tf117 u u u (by simp [Value.cells,Value.oneCell']) hS32 u u ?_
 intro w33 hS34
 refine nr ?_
 refine wl_val wn u (rv_loadmS (ds:=[.int .i64 p0_a.Doc,.slice a26 n27 c28]) tf119 u (.head _) hS34 u u) ?_
 have hS35:SH _ _ _ _ _ [_,_,_,_]:=SH.front (p:=[_,_]) hS34
 refine wl_store (cs':=[.int .i64 p0_a.Doc,.slice a26 n27 c28]) (v:=.agg #[.int .i64 p0_a.Doc,.slice a26 n27 c28]) wn tf119 u u u (by simp [Value.cells,Value.oneCell']) hS35 u u ?_
 intro w36 hS37
 refine nq ?_
 refine wc_ret ?_
 obtain rfl:=oi h22
 have hS38:SH _ _ _ _ _ [_]:=SH.sublist hS37 (.cons _ (.cons _ (.cons_cons _ (.cons _ .slnil))))
 exact qe_ret (vs:=[_]) Tryz.results155 ⟨⟨_,_,u,run_loadVar_at tf119 (cs:=[.int .i64 p0_a.Doc,.slice a26 n27 c28]) (fun j c e=>by rw [Nat.zero_add,hS37.mem_obj (.head _)];exact e) (.inl ⟨u,u,u⟩)⟩,trivial⟩ ⟨a26,n27,c28,K23,B23,u,hS38,hr1,(SliceAt.mono (only_mono (KLe.refl _) fun _ h=>h) hs29)⟩

theorem bag_laws_toPostS (F:Nat){w:World}{K:KMap}{a1:Option Addr}{n2 c3:Nat}{p0_a:List GPost}{r:(List GPost)}(hS:SH w K [] w K [])(hs4:SliceAt tGPost K a1 n2 c3 p0_a)(hm:M.laws_toPostS F p0_a=some r):
  Calls Tryz.prog 113 #[.slice a1 n2 c3] w fun e w'=>∃(a_1:Option Addr) (n_2 c_3:Nat) (K':KMap) (B':List Nat),e= .returned (.slice a_1 n_2 c_3)∧SH w K [] w' K' [bag B']∧SliceAt tGPost (K'.only B') a_1 n_2 c_3 r:=by
 rw [M.laws_toPostS] at hm
 refine calls_in Tryz.func113 u Tryz.ntmps113 u ?_
 refine sr ?_
 refine wl_val wn u (rv_assign (v:=.slice none 0 0) u) ?_
 refine nr ?_
 refine vm u u ?_
 refine wl_val wn u (rv_len (t:=tGPost) Tryz.underlying105 u hs4) ?_
 obtain⟨x5,hx6,h7⟩:=ob hm
 refine wl_make (t:=Ty.fix tGPost (K.only [])) wn u Tryz.underlying112 tf119 u u u hx6 ⟨none,0,0,u,d_0,(SliceAt.nil _ _)⟩ hS ?_
 intro g8 cs9 w10 hmx13 hrow11 hS12
 obtain⟨m14,hm15⟩: ∃m,m=x5.length:=⟨_,u⟩
 rw [←hm15] at hmx13
 rw [←hm15]
 refine va u u ?_
 refine nsr ?_
 refine wl_val wn u (rv_assign (v:=.int .i64 0) u) ?_
 refine nq ?_
 obtain⟨o16,h17,h18⟩:=ob h7
 refine wc_cutg (fun E' w'=>∃(cs23:List Value) (K19:KMap) (B19:List Nat),E'=[(3,.slice (some ⟨g8,0,none⟩) m14 m14)]∧SH w K [] w' K19 [obj g8 cs23 119,bag B19]∧KLe K K19∧RowAt true tGPost (K19.only B19) cs23 o16∧m14=o16.length) ?_ ?_
 ·refine wc_block ?_
  obtain⟨r27,h28,h29⟩:=ob h17
  refine wc_while' (fun (s26:Int×(List GPost)) E' w'=>∃(cs36:List Value) (K30:KMap) (B30:List Nat),E'=[(0,.slice a1 n2 c3),(3,.slice (some ⟨g8,0,none⟩) m14 m14),(4,.int .i64 s26.1)]∧SH w K [] w' K30 [obj g8 cs36 119,bag B30]∧KLe K K30∧rng64 s26.1∧RowAt true tGPost (K30.only B30) cs36 s26.2∧m14=s26.2.length) h28 ⟨cs9,K,[],u,(SH.perm (SH.bag0 hS12) (List.Perm.swap _ _ _)),(KLe.refl _),d_0,hrow11,hm15⟩ ⟨u,u,u,trivial⟩ ?_
  rintro s26 _ w33 r39 h40 hx41 ⟨cs36,K30,B30,rfl,hS34,hl31,hr35,hrow37,hm38⟩
  refine wc_seq ?_
  refine sr ?_
  refine vm u u ?_
  refine vm u u ?_
  refine wl_val wn u (rv_len (t:=tGPost) Tryz.underlying105 u (SliceAt.mono hl31 hs4)) ?_
  refine wl_val wn u (rv_lss u u) ?_
  refine nq ?_
  refine wc_cond u (fun hb42=>?_) (fun hb42=>?_)
  ·have h43:=cond_t hb42 h40
   refine wc_skip ?_
   refine qs ?_
   refine wc_block ?_
   refine wc_region ?_
   refine vm u u ?_
   refine vm u u ?_
   refine vm u u ?_
   refine vm u u ?_
   obtain⟨x44,hx45,h46⟩:=ob h43
   refine wl_indexAddr (t:=tGPost) wn u Tryz.underlying105 tf206 u u (SliceAt.mono hl31 hs4) hx45 ?_
   intro b47 o48 u49 hu50 ha51
   obtain⟨a53,n54,c55,rfl,hr52,hs56⟩:=hu50
   have ha57:AtK _ b47 o48 [.int .i64 x44.Doc,.slice a53 n54 c55]:=ha51
   refine wl_val wn u (rv_loadS (cs:=[.int .i64 x44.Doc,.slice a53 n54 c55]) tf206 u hS34 ha57 u) ?_
   obtain⟨r58,hx59,h60⟩:=ob h46
   refine wl_call wn u (rt_call (vs:=[.agg #[.int .i64 x44.Doc,.slice a53 n54 c55]]) co155 u) ((bag_laws_toPost F) hS34.enter0 hr52 hs56 hx59) ?_
   rintro e69 w62 ⟨a65,n66,c67,K61,B61,rfl,hS63,hr64,hs68⟩
   refine⟨_,u,?_⟩
   have hS70:SH _ _ _ _ _ [_,_]:=SH.bagJoin (SH.perm (SH.call0 hS34 hS63) (List.Perm.cons _ (List.Perm.swap _ _ _)))
   obtain⟨x71,hx72,h73⟩:=ob h60
   obtain⟨u74,hu75,hk76⟩:=RowAt.at (RowAt.mono (only_mono hS63.le fun _ h=>h) hrow37) hx72
   obtain⟨a79,n80,c81,rfl,hr78,hs82⟩:=hu75
   have hk77: ∀(j:Nat) (d:Value),[.int .i64 x71.Doc,.slice a79 n80 c81][j]? =some d→cs36[s26.1.toNat*tGPost.size+j]? =some d:=hk76
   refine wl_val wn u (rv_indexRow (t:=tGPost) Tryz.underlying112 tf119 u u hm38 hx72) ?_
   have hS83:SH _ _ _ _ _ [_,_]:=SH.front (p:=[_]) hS70
   refine wl_storeRow (t:=Ty.fix tGPost (K61.only (B61++B30))) (v:=.agg #[.int .i64 r58.Doc,.slice a65 n66 c67]) (e:=r58) wn tf119 u u ⟨a65,n66,c67,u,hr64,(SliceAt.mono (only_mono (KLe.refl _) fun _ h=>List.mem_append_left _ h) hs68)⟩ hS83 (show RowAt true tGPost (K61.only (B61++B30)) _ _ from RowAt.mono (only_mono hS63.le fun _ h=>List.mem_append_right _ h) hrow37) hx72 ?_
   intro cs84 w85 hrow86 hS87
   have hm88:=hm38.trans (List.length_set (i:=s26.1.toNat) (a:=r58)).symm
   refine nb ?_
   refine qe_seq ?_
   refine wc_region ?_
   refine vm u u ?_
   refine wl_val wn u (rv_add u u) ?_
   refine va u u ?_
   refine wl_nil ?_
   obtain rfl:=oi h73
   have hS89:=hS87
   exact qe_mid' ⟨_,u,cs84,K61,(B61++B30),u,hS89,(hl31.trans hS63.le),(w64_rng _),hrow86,hm88⟩ ⟨u,u,u,trivial⟩
  ·have h43:=cond_f hb42 h40
   refine wc_exit ?_
   refine qe_then_exit ?_
   refine qe_then_exit ?_
   obtain rfl:=oi h43
   have e90:=hx41 _ u
   subst e90
   refine qe_block_eq ?_
   obtain rfl:=oi h29
   exact qe_mid' ⟨cs36,K30,B30,u,hS34,hl31,hrow37,hm38⟩ ⟨u,trivial⟩
 ·rintro _ w21 ⟨cs23,K19,B19,rfl,hS22,hl20,hrow24,hm25⟩
  refine qr ?_
  refine vm u u ?_
  refine va u u ?_
  refine nq ?_
  refine wc_ret ?_
  obtain⟨K91,hl92,hs93,hS94⟩:=SH.freeze (t:=Ty.fix tGPost (K19.only B19)) hS22 hrow24 (row_max hm25 hmx13)
  rw [←hm25] at hs93 hS94
  obtain rfl:=oi h18
  obtain⟨Bz,hSz,hBz⟩:=SH.bagTail hS94
  exact qe_ret (vs:=[_]) Tryz.results113 ⟨u,trivial⟩ ⟨(some ⟨g8,0,none⟩),m14,m14,K91,(Bz++B19),u,SH.bagJoin hSz,SliceAt.unfix hs93 (only_mono hl92 fun _ h=>List.mem_append_right _ h) (fun hc b o e=>List.mem_append_left _ (hBz hc b o e))⟩

theorem bag_laws_toEntry (F:Nat){w:World}{K:KMap}{a3:Option Addr}{n4 c5:Nat}{p0_a:GEntry}{r:GEntry}(hS:SH w K [] w K [])(hl1:p0_a.Field.length≤maxLen)(hl2:p0_a.Term.length≤maxLen)(hs6:SliceAt tGPost K a3 n4 c5 p0_a.Posts)(hm:M.laws_toEntry F p0_a=some r):
  Calls Tryz.prog 70 #[.agg #[sv p0_a.Field,sv p0_a.Term,.slice a3 n4 c5]] w fun e w'=>∃(a_3:Option Addr) (n_4 c_5:Nat) (K':KMap) (B':List Nat),e= .returned (.agg #[sv r.Field,sv r.Term,.slice a_3 n_4 c_5])∧SH w K [] w' K' [bag B']∧r.Field.length≤maxLen∧r.Term.length≤maxLen∧SliceAt tGPost (K'.only B') a_3 n_4 c_5 r.Posts:=by
 rw [M.laws_toEntry] at hm
 refine calls_in Tryz.func70 u Tryz.ntmps70 u ?_
 refine sr ?_
 refine wl_box wn u u hS ?_
 intro g7 w9 hS10
 have hS11:SH _ _ _ _ _ [obj g7 [sv p0_a.Field,sv p0_a.Term,.slice a3 n4 c5] 107]:=hS10
 refine wl_alloc wn u tf114 hS11 ?_
 intro g12 w13 hS14
 have hS15:SH _ _ _ _ _ [obj g12 [sv [],sv [],.slice none 0 0] 114,_]:=hS14
 refine nr ?_
 refine wl_alloc wn u tf114 hS15 ?_
 intro g16 w17 hS18
 have hS19:SH _ _ _ _ _ [obj g16 [sv [],sv [],.slice none 0 0] 114,_,_]:=hS18
 refine nr ?_
 refine wl_val wn u (rv_fieldAddr ff107_0 u) ?_
 refine wl_val wn u (rv_loadm1 tf9 u (.tail _ (.tail _ (.head _))) hS19 u) ?_
 refine wl_val wn u (rv_fieldAddr ff114_0 u) ?_
 refine wl_store (cs':=[sv p0_a.Field,sv [],.slice none 0 0]) (v:=sv p0_a.Field) wn tf9 u u u (by simp [Value.cells,Value.oneCell',sv]) hS19 u u ?_
 intro w20 hS21
 refine nr ?_
 refine wl_val wn u (rv_fieldAddr ff107_1 u) ?_
 refine wl_val wn u (rv_loadm1 tf9 u (.tail _ (.tail _ (.head _))) hS21 u) ?_
 refine wl_val wn u (rv_fieldAddr ff114_1 u) ?_
 refine wl_store (cs':=[sv p0_a.Field,sv p0_a.Term,.slice none 0 0]) (v:=sv p0_a.Term) wn tf9 u u u (by simp [Value.cells,Value.oneCell',sv]) hS21 u u ?_
 intro w22 hS23
 refine nr ?_
 refine wl_val wn u (rv_fieldAddr ff107_2 u) ?_
 refine wl_val wn u (rv_loadm1 tf105 u (.tail _ (.tail _ (.head _))) hS23 u) ?_
 obtain⟨r24,hx25,h26⟩:=ob hm
 refine wl_call wn u (rt_call (vs:=[.slice a3 n4 c5]) co113 u) ((bag_laws_toPostS F) hS23.enter0 hs6 hx25) ?_
 rintro e34 w28 ⟨a30,n31,c32,K27,B27,rfl,hS29,hs33⟩
 refine⟨_,u,?_⟩
 have hS35:SH _ _ _ _ _ [_,_,_,_]:=SH.call0 hS23 hS29
 refine wl_val wn u (rv_fieldAddr ff114_2 u) ?_
 have hS36:SH _ _ _ _ _ [_,_,_,_]:=SH.front (p:=[_]) hS35
 refine wl_store (cs':=[sv p0_a.Field,sv p0_a.Term,.slice a30 n31 c32]) (v:=.slice a30 n31 c32) wn tf112 u u u (by simp [Value.cells,Value.oneCell']) hS36 u u ?_
 intro w37 hS38
 refine nr ?_
 refine wl_val wn u (rv_loadmS (ds:=[sv p0_a.Field,sv p0_a.Term,.slice a30 n31 c32]) tf114 u (.head _) hS38 u u) ?_
 have hS39:SH _ _ _ _ _ [_,_,_,_]:=SH.front (p:=[_,_]) hS38
 refine wl_store (cs':=[sv p0_a.Field,sv p0_a.Term,.slice a30 n31 c32]) (v:=.agg #[sv p0_a.Field,sv p0_a.Term,.slice a30 n31 c32]) wn tf114 u u u (by simp [Value.cells,Value.oneCell',sv]) hS39 u u ?_
 intro w40 hS41
 refine nq ?_
 refine wc_ret ?_
 obtain rfl:=oi h26
 have hS42:SH _ _ _ _ _ [_]:=SH.sublist hS41 (.cons _ (.cons _ (.cons_cons _ (.cons _ .slnil))))
 exact qe_ret (vs:=[_]) Tryz.results70 ⟨⟨_,_,u,run_loadVar_at tf114 (cs:=[sv p0_a.Field,sv p0_a.Term,.slice a30 n31 c32]) (fun j c e=>by rw [Nat.zero_add,hS41.mem_obj (.head _)];exact e) (.inl ⟨u,u,u⟩)⟩,trivial⟩ ⟨a30,n31,c32,K27,B27,u,hS42,hl1,hl2,(SliceAt.mono (only_mono (KLe.refl _) fun _ h=>h) hs33)⟩

theorem bag_laws_toEntryS (F:Nat){w:World}{K:KMap}{a1:Option Addr}{n2 c3:Nat}{p0_a:List GEntry}{r:(List GEntry)}(hS:SH w K [] w K [])(hs4:SliceAt tGEntry K a1 n2 c3 p0_a)(hm:M.laws_toEntryS F p0_a=some r):
  Calls Tryz.prog 34 #[.slice a1 n2 c3] w fun e w'=>∃(a_1:Option Addr) (n_2 c_3:Nat) (K':KMap) (B':List Nat),e= .returned (.slice a_1 n_2 c_3)∧SH w K [] w' K' [bag B']∧SliceAt tGEntry (K'.only B') a_1 n_2 c_3 r:=by
 rw [M.laws_toEntryS] at hm
 refine calls_in Tryz.func34 u Tryz.ntmps34 u ?_
 refine sr ?_
 refine wl_val wn u (rv_assign (v:=.slice none 0 0) u) ?_
 refine nr ?_
 refine vm u u ?_
 refine wl_val wn u (rv_len (t:=tGEntry) Tryz.underlying27 u hs4) ?_
 obtain⟨x5,hx6,h7⟩:=ob hm
 refine wl_make (t:=Ty.fix tGEntry (K.only [])) wn u Tryz.underlying39 tf114 u u u hx6 ⟨none,0,0,u,(by decide :([]:Str).length≤maxLen),(by decide :([]:Str).length≤maxLen),(SliceAt.nil _ _)⟩ hS ?_
 intro g8 cs9 w10 hmx13 hrow11 hS12
 obtain⟨m14,hm15⟩: ∃m,m=x5.length:=⟨_,u⟩
 rw [←hm15] at hmx13
 rw [←hm15]
 refine va u u ?_
 refine nsr ?_
 refine wl_val wn u (rv_assign (v:=.int .i64 0) u) ?_
 refine nq ?_
 obtain⟨o16,h17,h18⟩:=ob h7
 refine wc_cutg (fun E' w'=>∃(cs23:List Value) (K19:KMap) (B19:List Nat),E'=[(3,.slice (some ⟨g8,0,none⟩) m14 m14)]∧SH w K [] w' K19 [obj g8 cs23 114,bag B19]∧KLe K K19∧RowAt true tGEntry (K19.only B19) cs23 o16∧m14=o16.length) ?_ ?_
 ·refine wc_block ?_
  obtain⟨r27,h28,h29⟩:=ob h17
  refine wc_while' (fun (s26:Int×(List GEntry)) E' w'=>∃(cs36:List Value) (K30:KMap) (B30:List Nat),E'=[(0,.slice a1 n2 c3),(3,.slice (some ⟨g8,0,none⟩) m14 m14),(4,.int .i64 s26.1)]∧SH w K [] w' K30 [obj g8 cs36 114,bag B30]∧KLe K K30∧rng64 s26.1∧RowAt true tGEntry (K30.only B30) cs36 s26.2∧m14=s26.2.length) h28 ⟨cs9,K,[],u,(SH.perm (SH.bag0 hS12) (List.Perm.swap _ _ _)),(KLe.refl _),d_0,hrow11,hm15⟩ ⟨u,u,u,trivial⟩ ?_
  rintro s26 _ w33 r39 h40 hx41 ⟨cs36,K30,B30,rfl,hS34,hl31,hr35,hrow37,hm38⟩
  refine wc_seq ?_
  refine sr ?_
  refine vm u u ?_
  refine vm u u ?_
  refine wl_val wn u (rv_len (t:=tGEntry) Tryz.underlying27 u (SliceAt.mono hl31 hs4)) ?_
  refine wl_val wn u (rv_lss u u) ?_
  refine nq ?_
  refine wc_cond u (fun hb42=>?_) (fun hb42=>?_)
  ·have h43:=cond_t hb42 h40
   refine wc_skip ?_
   refine qs ?_
   refine wc_block ?_
   refine wc_region ?_
   refine vm u u ?_
   refine vm u u ?_
   refine vm u u ?_
   refine vm u u ?_
   obtain⟨x44,hx45,h46⟩:=ob h43
   refine wl_indexAddr (t:=tGEntry) wn u Tryz.underlying27 tf107 u u (SliceAt.mono hl31 hs4) hx45 ?_
   intro b47 o48 u49 hu50 ha51
   obtain⟨a54,n55,c56,rfl,hl52,hl53,hs57⟩:=hu50
   have ha58:AtK _ b47 o48 [sv x44.Field,sv x44.Term,.slice a54 n55 c56]:=ha51
   refine wl_val wn u (rv_loadS (cs:=[sv x44.Field,sv x44.Term,.slice a54 n55 c56]) tf107 u hS34 ha58 u) ?_
   obtain⟨r59,hx60,h61⟩:=ob h46
   refine wl_call wn u (rt_call (vs:=[.agg #[sv x44.Field,sv x44.Term,.slice a54 n55 c56]]) co70 u) ((bag_laws_toEntry F) hS34.enter0 hl52 hl53 hs57 hx60) ?_
   rintro e71 w63 ⟨a67,n68,c69,K62,B62,rfl,hS64,hl65,hl66,hs70⟩
   refine⟨_,u,?_⟩
   have hS72:SH _ _ _ _ _ [_,_]:=SH.bagJoin (SH.perm (SH.call0 hS34 hS64) (List.Perm.cons _ (List.Perm.swap _ _ _)))
   obtain⟨x73,hx74,h75⟩:=ob h61
   obtain⟨u76,hu77,hk78⟩:=RowAt.at (RowAt.mono (only_mono hS64.le fun _ h=>h) hrow37) hx74
   obtain⟨a82,n83,c84,rfl,hl80,hl81,hs85⟩:=hu77
   have hk79: ∀(j:Nat) (d:Value),[sv x73.Field,sv x73.Term,.slice a82 n83 c84][j]? =some d→cs36[s26.1.toNat*tGEntry.size+j]? =some d:=hk78
   refine wl_val wn u (rv_indexRow (t:=tGEntry) Tryz.underlying39 tf114 u u hm38 hx74) ?_
   have hS86:SH _ _ _ _ _ [_,_]:=SH.front (p:=[_]) hS72
   refine wl_storeRow (t:=Ty.fix tGEntry (K62.only (B62++B30))) (v:=.agg #[sv r59.Field,sv r59.Term,.slice a67 n68 c69]) (e:=r59) wn tf114 u u ⟨a67,n68,c69,u,hl65,hl66,(SliceAt.mono (only_mono (KLe.refl _) fun _ h=>List.mem_append_left _ h) hs70)⟩ hS86 (show RowAt true tGEntry (K62.only (B62++B30)) _ _ from RowAt.mono (only_mono hS64.le fun _ h=>List.mem_append_right _ h) hrow37) hx74 ?_
   intro cs87 w88 hrow89 hS90
   have hm91:=hm38.trans (List.length_set (i:=s26.1.toNat) (a:=r59)).symm
   refine nb ?_
   refine qe_seq ?_
   refine wc_region ?_
   refine vm u u ?_
   refine wl_val wn u (rv_add u u) ?_
   refine va u u ?_
   refine wl_nil ?_
   obtain rfl:=oi h75
   have hS92:=hS90
   exact qe_mid' ⟨_,u,cs87,K62,(B62++B30),u,hS92,(hl31.trans hS64.le),(w64_rng _),hrow89,hm91⟩ ⟨u,u,u,trivial⟩
  ·have h43:=cond_f hb42 h40
   refine wc_exit ?_
   refine qe_then_exit ?_
   refine qe_then_exit ?_
   obtain rfl:=oi h43
   have e93:=hx41 _ u
   subst e93
   refine qe_block_eq ?_
   obtain rfl:=oi h29
   exact qe_mid' ⟨cs36,K30,B30,u,hS34,hl31,hrow37,hm38⟩ ⟨u,trivial⟩
 ·rintro _ w21 ⟨cs23,K19,B19,rfl,hS22,hl20,hrow24,hm25⟩
  refine qr ?_
  refine vm u u ?_
  refine va u u ?_
  refine nq ?_
  refine wc_ret ?_
  obtain⟨K94,hl95,hs96,hS97⟩:=SH.freeze (t:=Ty.fix tGEntry (K19.only B19)) hS22 hrow24 (row_max hm25 hmx13)
  rw [←hm25] at hs96 hS97
  obtain rfl:=oi h18
  obtain⟨Bz,hSz,hBz⟩:=SH.bagTail hS97
  exact qe_ret (vs:=[_]) Tryz.results34 ⟨u,trivial⟩ ⟨(some ⟨g8,0,none⟩),m14,m14,K94,(Bz++B19),u,SH.bagJoin hSz,SliceAt.unfix hs96 (only_mono hl95 fun _ h=>List.mem_append_right _ h) (fun hc b o e=>List.mem_append_left _ (hBz hc b o e))⟩

theorem ok_laws_eqStringS {q0:List Str}{q1:List Str}{r:Bool}(hS:SH w K [] w K [])(k:SliceAt tStr K A a b q0)(x:SliceAt tStr K B c d q1)(hm:M.laws_eqStringS F q0 q1=some r):
  Calls prog 23 #[V3 A a b,V3 B c d] w (R_b w K r):=by
 rw [M.laws_eqStringS] at hm
 refine ci func23 u ntmps23 (sr (lv (r_f u) (nsr (mv u (lv (rv_len underlying22 u k) (mv u (lv (rv_len underlying22 u x) (lv (rv_neq u u) (nq ?_)))))))))
 refine wc_cond u (fun l=>?_) (fun l=>?_)
 ·have m:=cond_t l hm
  refine sr (lv (r_f u) (nq (rr ?_)))
  cases oi m
  exact ey results23 ⟨K,u,hS⟩
 have m:=cond_f l hm
 refine wc_skip (qs (sr (lv (r_0 u) (nq ?_))))
 obtain⟨I,J,i⟩:=ob m
 refine wc_cutg (IE I w K [] K [] []) ?_ ?_
 ·refine wc_block ?_
  obtain⟨ap,O,y⟩:=ob J
  refine qw (fun (o:Int)=>IW w K [] K [(0,V3 A a b),(1,V3 B c d),(5,V6 o)] [] (rng64 o)) O ⟨K,u,hS,kr,d_0⟩ ?_
  rintro o _ aq ar R C ⟨S,rfl,D,f,au⟩
  refine wc_seq (sr (mv u (mv u (lv (rv_len underlying22 u (k.mono f)) (lv (rv_lss u u) (nq (wcc R u (fun T q=>?_) (fun T q=>?_))))))))
  ·refine wc_skip (qs (wc_block (wc_seq (wc_quiet mixed (by kernel_rfl) D (km u (km u ?_))))))
   obtain⟨U,V,W⟩:=ob q
   refine ki underlying22 tf9 (k.mono f) V fun X Y aw aa ab=>?_
   obtain⟨rfl,ax⟩:=aa
   have ac:AtK _ X Y [sv U]:=ab
   refine kh (rq_load1 tf9 u (ac 0 _ u)) (km u (km u ?_))
   obtain⟨ad,ae,af⟩:=ob W
   refine ki underlying22 tf9 (x.mono f) ae fun ag ah ay ai aj=>?_
   obtain⟨rfl,az⟩:=ai
   have ak:AtK _ ag ah [sv ad]:=aj
   refine kh (rq_load1 tf9 u (ak 0 _ u)) (kv (rv_sneq u u) (wq_nil ?_))
   rintro aA ⟨G,H,al⟩
   refine qe_seq (wcc af u (fun am s=>?_) (fun am s=>?_))
   ·refine sr (lv (r_f u) (nq (wc_ret (qe_block_ret (qe_then_ret (qe_then_ret ?_))))))
    cases oi s
    cases C _ u
    refine qe_block_ret (qe_then_ret ?_)
    cases oi y
    refine qe_then_ret ?_
    cases oi i
    exact ey results23 ⟨G,u,H⟩
   refine wc_skip (qe_block (qe_seq (wc_region (mv u (lv (rv_add u u) (av u (wl_nil ?_)))))))
   cases oi s
   exact qd ⟨_,u,G,u,H,(f.trans al),(w64_rng _)⟩
  refine wc_exit (qe_then_exit (qe_then_exit ?_))
  cases oi q
  cases C _ u
  refine qe_block_eq ?_
  cases oi y
  exact qe_mid' ⟨_,S,u,u,D,f⟩ trivial
 rintro _ aB ⟨aC,an,rfl,rfl,ao,aD⟩
 have i:=elim_l i
 refine qr (lv (r_t u) (nq (wc_ret ?_)))
 cases oi i
 exact ey results23 ⟨an,u,ao⟩

theorem ok_laws_eqSyn {q0:GSyn}{q1:GSyn}{r:Bool}(hS:SH w K [] w K [])(o:SliceAt tStr K A a b q0.From)(R:q0.To.length≤maxLen)(q:SliceAt tStr K B c d q1.From)(S:q1.To.length≤maxLen)(hm:M.laws_eqSyn F q0 q1=some r):
  Calls prog 77 #[.agg #[V3 A a b,sv q0.To],.agg #[V3 B c d,sv q1.To]] w (R_b w K r):=by
 rw [M.laws_eqSyn] at hm
 refine ci func77 u ntmps77 (sr (bx u hS fun s T x=>?_))
 have y:SH _ _ _ _ _ [obj s [V3 A a b,sv q0.To] 120]:=x
 refine bx u y fun C U D=>?_
 have i:SH _ _ _ _ _ [obj C [V3 B c d,sv q1.To] 120,_]:=D
 refine lv (r_f u) (nsr (fl ff120_0 u tf22 m1 i u (fl ff120_0 u tf22 m0 i u ?_)))
 obtain⟨V,G,H⟩:=ob hm
 refine lk co23 (ok_laws_eqStringS F i.enter0 o q G) ?_
 rintro W X ⟨k,rfl,I⟩
 have f:=(i.c0 I).t2
 refine lv (rv_not u) (nq (wcc H u (fun J l=>?_) (fun J l=>?_)))
 ·refine sr (lv (r_f u) (nq (rr ?_)))
  cases oi l
  exact ey results77 ⟨k,u,f.s⟩
 refine wc_skip (qs (sr (fl ff120_1 u tf9 m1 f u (fl ff120_1 u tf9 m0 f u (lv (rv_sneq u u) (nq (wcc l u (fun O m=>?_) (fun O m=>?_))))))))
 ·refine sr (lv (r_f u) (nq (rr ?_)))
  cases oi m
  exact ey results77 ⟨k,u,f.s⟩
 refine wc_skip (qr (lv (r_t u) (nq (wc_ret ?_))))
 cases oi m
 exact ey results77 ⟨k,u,f.s⟩

theorem ok_laws_eqSynS {q0:List GSyn}{q1:List GSyn}{r:Bool}(hS:SH w K [] w K [])(k:SliceAt tGSyn K A a b q0)(x:SliceAt tGSyn K B c d q1)(hm:M.laws_eqSynS F q0 q1=some r):
  Calls prog 38 #[V3 A a b,V3 B c d] w (R_b w K r):=by
 rw [M.laws_eqSynS] at hm
 refine ci func38 u ntmps38 (sr (lv (r_f u) (nsr (mv u (lv (rv_len underlying34 u k) (mv u (lv (rv_len underlying34 u x) (lv (rv_neq u u) (nq ?_)))))))))
 refine wc_cond u (fun l=>?_) (fun l=>?_)
 ·have m:=cond_t l hm
  refine sr (lv (r_f u) (nq (rr ?_)))
  cases oi m
  exact ey results38 ⟨K,u,hS⟩
 have m:=cond_f l hm
 refine wc_skip (qs (sr (lv (r_0 u) (nq ?_))))
 obtain⟨J,O,i⟩:=ob m
 refine wc_cutg (IE J w K [] K [] []) ?_ ?_
 ·refine wc_block ?_
  obtain⟨aG,R,y⟩:=ob O
  refine qw (fun (o:Int)=>IW w K [] K [(0,V3 A a b),(1,V3 B c d),(5,V6 o)] [] (rng64 o)) R ⟨K,u,hS,kr,d_0⟩ ?_
  rintro o _ aH aI S C ⟨T,rfl,D,f,aJ⟩
  refine wc_seq (sr (mv u (mv u (lv (rv_len underlying34 u (k.mono f)) (lv (rv_lss u u) (nq (wcc S u (fun U q=>?_) (fun U q=>?_))))))))
  ·refine wc_skip (qs (wc_block (wc_seq (wc_quiet mixed (by kernel_rfl) D (km u (km u ?_))))))
   obtain⟨V,W,X⟩:=ob q
   refine ki underlying34 tf120 (k.mono f) W fun Y aa aK ab ac=>?_
   obtain⟨ad,ae,af,rfl,ag,ah⟩:=ab
   have ai:AtK _ Y aa [V3 ad ae af,sv V.To]:=ac
   refine kh (rq_loadS tf120 u ai u) (km u (km u ?_))
   obtain⟨aj,ak,al⟩:=ob X
   refine ki underlying34 tf120 (x.mono f) ak fun am an aL ao ap=>?_
   obtain⟨aq,ar,au,rfl,aw,ax⟩:=ao
   have ay:AtK _ am an [V3 aq ar au,sv aj.To]:=ap
   refine kh (rq_loadS tf120 u ay u) ?_
   obtain⟨aM,az,aA⟩:=ob al
   refine kc co77 (fun _ _ aB G=>(ok_laws_eqSyn F) aB.enter0 (ag.mono G) ah (aw.mono G) ax az) (kv (rv_not u) (wq_nil ?_))
   rintro aN ⟨H,I,aC⟩
   refine qe_seq (wcc aA u (fun aD s=>?_) (fun aD s=>?_))
   ·refine sr (lv (r_f u) (nq (wc_ret (qe_block_ret (qe_then_ret (qe_then_ret ?_))))))
    cases oi s
    cases C _ u
    refine qe_block_ret (qe_then_ret ?_)
    cases oi y
    refine qe_then_ret ?_
    cases oi i
    exact ey results38 ⟨H,u,I⟩
   refine wc_skip (qe_block (qe_seq (wc_region (mv u (lv (rv_add u u) (av u (wl_nil ?_)))))))
   cases oi s
   exact qd ⟨_,u,H,u,I,(f.trans aC),(w64_rng _)⟩
  refine wc_exit (qe_then_exit (qe_then_exit ?_))
  cases oi q
  cases C _ u
  refine qe_block_eq ?_
  cases oi y
  exact qe_mid' ⟨_,T,u,u,D,f⟩ trivial
 rintro _ aO ⟨aP,aE,rfl,rfl,aF,aQ⟩
 have i:=elim_l i
 refine qr (lv (r_t u) (nq (wc_ret ?_)))
 cases oi i
 exact ey results38 ⟨aE,u,aF⟩

theorem ok_laws_eqConf {q0:GConf}{q1:GConf}{r:Bool}(hS:SH w K [] w K [])(H:SliceAt tStr K A a b q0.Stops)(I:SliceAt tGSyn K B c d q0.Syns)(J:SliceAt tStr K C f i q1.Stops)(O:SliceAt tGSyn K D k l q1.Syns)(hm:M.laws_eqConf F q0 q1=some r):
  Calls prog 12 #[.agg #[V3 A a b,V3 B c d],.agg #[V3 C f i,V3 D k l]] w (R_b w K r):=by
 rw [M.laws_eqConf] at hm
 refine ci func12 u ntmps12 (sr (bx u hS fun R af S=>?_))
 have T:SH _ _ _ _ _ [obj R [V3 A a b,V3 B c d] 36]:=S
 refine bx u T fun U ag V=>?_
 have o:SH _ _ _ _ _ [obj U [V3 C f i,V3 D k l] 36,_]:=V
 refine lv (r_f u) (nsr (fl ff36_0 u tf22 m1 o u (fl ff36_0 u tf22 m0 o u ?_)))
 obtain⟨ah,W,X⟩:=ob hm
 refine lk co23 (ok_laws_eqStringS F o.enter0 H J W) ?_
 rintro ai aj ⟨Y,rfl,q⟩
 have m:=(o.c0 q).t2
 refine lv (rv_not u) (nq (wcc X u (fun aa s=>?_) (fun aa s=>?_)))
 ·refine sr (lv (r_f u) (nq (rr ?_)))
  cases oi s
  exact ey results12 ⟨Y,u,m.s⟩
 refine wc_skip (qs (sr (fl ff36_1 u tf34 m1 m u (fl ff36_1 u tf34 m0 m u ?_))))
 obtain⟨ak,ab,ac⟩:=ob s
 refine lk co38 (ok_laws_eqSynS F m.enter0 (I.mono q.le) (O.mono q.le) ab) ?_
 rintro al am ⟨y,rfl,ad⟩
 have G:=(m.c0 ad).t2
 refine lv (rv_not u) (nq (wcc ac u (fun ae x=>?_) (fun ae x=>?_)))
 ·refine sr (lv (r_f u) (nq (rr ?_)))
  cases oi x
  exact ey results12 ⟨y,u,G.s⟩
 refine wc_skip (qr (lv (r_t u) (nq (wc_ret ?_))))
 cases oi x
 exact ey results12 ⟨y,u,G.s⟩

theorem ok_laws_eqIntS {q0:List Int}{q1:List Int}{r:Bool}(hS:SH w K [] w K [])(k:SliceAt tInt K A a b q0)(x:SliceAt tInt K B c d q1)(hm:M.laws_eqIntS F q0 q1=some r):
  Calls prog 190 #[V3 A a b,V3 B c d] w (R_b w K r):=by
 rw [M.laws_eqIntS] at hm
 refine ci func190 u ntmps190 (sr (lv (r_f u) (nsr (mv u (lv (rv_len underlying117 u k) (mv u (lv (rv_len underlying117 u x) (lv (rv_neq u u) (nq ?_)))))))))
 refine wc_cond u (fun l=>?_) (fun l=>?_)
 ·have m:=cond_t l hm
  refine sr (lv (r_f u) (nq (rr ?_)))
  cases oi m
  exact ey results190 ⟨K,u,hS⟩
 have m:=cond_f l hm
 refine wc_skip (qs (sr (lv (r_0 u) (nq ?_))))
 obtain⟨I,J,i⟩:=ob m
 refine wc_cutg (IE I w K [] K [] []) ?_ ?_
 ·refine wc_block ?_
  obtain⟨ap,O,y⟩:=ob J
  refine qw (fun (o:Int)=>IW w K [] K [(0,V3 A a b),(1,V3 B c d),(5,V6 o)] [] (rng64 o)) O ⟨K,u,hS,kr,d_0⟩ ?_
  rintro o _ aq ar R C ⟨S,rfl,D,f,au⟩
  refine wc_seq (sr (mv u (mv u (lv (rv_len underlying117 u (k.mono f)) (lv (rv_lss u u) (nq (wcc R u (fun T q=>?_) (fun T q=>?_))))))))
  ·refine wc_skip (qs (wc_block (wc_seq (wc_quiet mixed (by kernel_rfl) D (km u (km u ?_))))))
   obtain⟨U,V,W⟩:=ob q
   refine ki underlying117 tf3 (k.mono f) V fun X Y aw aa ab=>?_
   obtain⟨rfl,ax⟩:=aa
   have ac:AtK _ X Y [V6 U]:=ab
   refine kh (rq_load1 tf3 u (ac 0 _ u)) (km u (km u ?_))
   obtain⟨ad,ae,af⟩:=ob W
   refine ki underlying117 tf3 (x.mono f) ae fun ag ah ay ai aj=>?_
   obtain⟨rfl,az⟩:=ai
   have ak:AtK _ ag ah [V6 ad]:=aj
   refine kh (rq_load1 tf3 u (ak 0 _ u)) (kv (rv_neq u u) (wq_nil ?_))
   rintro aA ⟨G,H,al⟩
   refine qe_seq (wcc af u (fun am s=>?_) (fun am s=>?_))
   ·refine sr (lv (r_f u) (nq (wc_ret (qe_block_ret (qe_then_ret (qe_then_ret ?_))))))
    cases oi s
    cases C _ u
    refine qe_block_ret (qe_then_ret ?_)
    cases oi y
    refine qe_then_ret ?_
    cases oi i
    exact ey results190 ⟨G,u,H⟩
   refine wc_skip (qe_block (qe_seq (wc_region (mv u (lv (rv_add u u) (av u (wl_nil ?_)))))))
   cases oi s
   exact qd ⟨_,u,G,u,H,(f.trans al),(w64_rng _)⟩
  refine wc_exit (qe_then_exit (qe_then_exit ?_))
  cases oi q
  cases C _ u
  refine qe_block_eq ?_
  cases oi y
  exact qe_mid' ⟨_,S,u,u,D,f⟩ trivial
 rintro _ aB ⟨aC,an,rfl,rfl,ao,aD⟩
 have i:=elim_l i
 refine qr (lv (r_t u) (nq (wc_ret ?_)))
 cases oi i
 exact ey results190 ⟨an,u,ao⟩

theorem ok_laws_eqPost {q0:GPost}{q1:GPost}{r:Bool}(hS:SH w K [] w K [])(R:rng64 q0.Doc)(q:SliceAt tInt K A a b q0.At)(S:rng64 q1.Doc)(s:SliceAt tInt K B c d q1.At)(hm:M.laws_eqPost F q0 q1=some r):
  Calls prog 166 #[.agg #[V6 q0.Doc,V3 A a b],.agg #[V6 q1.Doc,V3 B c d]] w (R_b w K r):=by
 rw [M.laws_eqPost] at hm
 refine ci func166 u ntmps166 (sr (bx u hS fun x T y=>?_))
 have C:SH _ _ _ _ _ [obj x [V6 q0.Doc,V3 A a b] 119]:=y
 refine bx u C fun D U G=>?_
 have f:SH _ _ _ _ _ [obj D [V6 q1.Doc,V3 B c d] 119,_]:=G
 refine lv (r_f u) (nsr (fl ff119_0 u tf3 m1 f u (fl ff119_0 u tf3 m0 f u (lv (rv_neq u u) (nq (wc_cond u (fun i=>?_) (fun i=>?_)))))))
 ·have k:=cond_t i hm
  refine sr (lv (r_f u) (nq (rr ?_)))
  cases oi k
  exact ey results166 ⟨K,u,f.s⟩
 have k:=cond_f i hm
 refine wc_skip (qs (sr (fl ff119_1 u tf117 m1 f u (fl ff119_1 u tf117 m0 f u ?_))))
 obtain⟨V,H,I⟩:=ob k
 refine lk co190 (ok_laws_eqIntS F f.enter0 q s H) ?_
 rintro W X ⟨m,rfl,J⟩
 have o:=(f.c0 J).t2
 refine lv (rv_not u) (nq (wcc I u (fun O l=>?_) (fun O l=>?_)))
 ·refine sr (lv (r_f u) (nq (rr ?_)))
  cases oi l
  exact ey results166 ⟨m,u,o.s⟩
 refine wc_skip (qr (lv (r_t u) (nq (wc_ret ?_))))
 cases oi l
 exact ey results166 ⟨m,u,o.s⟩

theorem ok_laws_eqPostS {q0:List GPost}{q1:List GPost}{r:Bool}(hS:SH w K [] w K [])(k:SliceAt tGPost K A a b q0)(x:SliceAt tGPost K B c d q1)(hm:M.laws_eqPostS F q0 q1=some r):
  Calls prog 127 #[V3 A a b,V3 B c d] w (R_b w K r):=by
 rw [M.laws_eqPostS] at hm
 refine ci func127 u ntmps127 (sr (lv (r_f u) (nsr (mv u (lv (rv_len underlying112 u k) (mv u (lv (rv_len underlying112 u x) (lv (rv_neq u u) (nq ?_)))))))))
 refine wc_cond u (fun l=>?_) (fun l=>?_)
 ·have m:=cond_t l hm
  refine sr (lv (r_f u) (nq (rr ?_)))
  cases oi m
  exact ey results127 ⟨K,u,hS⟩
 have m:=cond_f l hm
 refine wc_skip (qs (sr (lv (r_0 u) (nq ?_))))
 obtain⟨J,O,i⟩:=ob m
 refine wc_cutg (IE J w K [] K [] []) ?_ ?_
 ·refine wc_block ?_
  obtain⟨aG,R,y⟩:=ob O
  refine qw (fun (o:Int)=>IW w K [] K [(0,V3 A a b),(1,V3 B c d),(5,V6 o)] [] (rng64 o)) R ⟨K,u,hS,kr,d_0⟩ ?_
  rintro o _ aH aI S C ⟨T,rfl,D,f,aJ⟩
  refine wc_seq (sr (mv u (mv u (lv (rv_len underlying112 u (k.mono f)) (lv (rv_lss u u) (nq (wcc S u (fun U q=>?_) (fun U q=>?_))))))))
  ·refine wc_skip (qs (wc_block (wc_seq (wc_quiet mixed (by kernel_rfl) D (km u (km u ?_))))))
   obtain⟨V,W,X⟩:=ob q
   refine ki underlying112 tf119 (k.mono f) W fun Y aa aK ab ac=>?_
   obtain⟨ad,ae,af,rfl,ag,ah⟩:=ab
   have ai:AtK _ Y aa [V6 V.Doc,V3 ad ae af]:=ac
   refine kh (rq_loadS tf119 u ai u) (km u (km u ?_))
   obtain⟨aj,ak,al⟩:=ob X
   refine ki underlying112 tf119 (x.mono f) ak fun am an aL ao ap=>?_
   obtain⟨aq,ar,au,rfl,aw,ax⟩:=ao
   have ay:AtK _ am an [V6 aj.Doc,V3 aq ar au]:=ap
   refine kh (rq_loadS tf119 u ay u) ?_
   obtain⟨aM,az,aA⟩:=ob al
   refine kc co166 (fun _ _ aB G=>(ok_laws_eqPost F) aB.enter0 ag (ah.mono G) aw (ax.mono G) az) (kv (rv_not u) (wq_nil ?_))
   rintro aN ⟨H,I,aC⟩
   refine qe_seq (wcc aA u (fun aD s=>?_) (fun aD s=>?_))
   ·refine sr (lv (r_f u) (nq (wc_ret (qe_block_ret (qe_then_ret (qe_then_ret ?_))))))
    cases oi s
    cases C _ u
    refine qe_block_ret (qe_then_ret ?_)
    cases oi y
    refine qe_then_ret ?_
    cases oi i
    exact ey results127 ⟨H,u,I⟩
   refine wc_skip (qe_block (qe_seq (wc_region (mv u (lv (rv_add u u) (av u (wl_nil ?_)))))))
   cases oi s
   exact qd ⟨_,u,H,u,I,(f.trans aC),(w64_rng _)⟩
  refine wc_exit (qe_then_exit (qe_then_exit ?_))
  cases oi q
  cases C _ u
  refine qe_block_eq ?_
  cases oi y
  exact qe_mid' ⟨_,T,u,u,D,f⟩ trivial
 rintro _ aO ⟨aP,aE,rfl,rfl,aF,aQ⟩
 have i:=elim_l i
 refine qr (lv (r_t u) (nq (wc_ret ?_)))
 cases oi i
 exact ey results127 ⟨aE,u,aF⟩

theorem ok_laws_eqEntry {q0:GEntry}{q1:GEntry}{r:Bool}(hS:SH w K [] w K [])(T:q0.Field.length≤maxLen)(U:q0.Term.length≤maxLen)(s:SliceAt tGPost K A a b q0.Posts)(V:q1.Field.length≤maxLen)(W:q1.Term.length≤maxLen)(x:SliceAt tGPost K B c d q1.Posts)(hm:M.laws_eqEntry F q0 q1=some r):
  Calls prog 79 #[.agg #[sv q0.Field,sv q0.Term,V3 A a b],.agg #[sv q1.Field,sv q1.Term,V3 B c d]] w (R_b w K r):=by
 rw [M.laws_eqEntry] at hm
 refine ci func79 u ntmps79 (sr (bx u hS fun y X C=>?_))
 have D:SH _ _ _ _ _ [obj y [sv q0.Field,sv q0.Term,V3 A a b] 114]:=C
 refine bx u D fun G Y H=>?_
 have f:SH _ _ _ _ _ [obj G [sv q1.Field,sv q1.Term,V3 B c d] 114,_]:=H
 refine lv (r_f u) (nsr (fl ff114_0 u tf9 m1 f u (fl ff114_0 u tf9 m0 f u (lv (rv_sneq u u) (nq (wc_cond u (fun i=>?_) (fun i=>?_)))))))
 ·have k:=cond_t i hm
  refine sr (lv (r_f u) (nq (rr ?_)))
  cases oi k
  exact ey results79 ⟨K,u,f.s⟩
 have k:=cond_f i hm
 refine wc_skip (qs (sr (fl ff114_1 u tf9 m1 f u (fl ff114_1 u tf9 m0 f u (lv (rv_sneq u u) (nq (wcc k u (fun I l=>?_) (fun I l=>?_))))))))
 ·refine sr (lv (r_f u) (nq (rr ?_)))
  cases oi l
  exact ey results79 ⟨K,u,f.s⟩
 refine wc_skip (qs (sr (fl ff114_2 u tf112 m1 f u (fl ff114_2 u tf112 m0 f u ?_))))
 obtain⟨aa,J,O⟩:=ob l
 refine lk co127 (ok_laws_eqPostS F f.enter0 s x J) ?_
 rintro ab ac ⟨o,rfl,R⟩
 have q:=(f.c0 R).t2
 refine lv (rv_not u) (nq (wcc O u (fun S m=>?_) (fun S m=>?_)))
 ·refine sr (lv (r_f u) (nq (rr ?_)))
  cases oi m
  exact ey results79 ⟨o,u,q.s⟩
 refine wc_skip (qr (lv (r_t u) (nq (wc_ret ?_))))
 cases oi m
 exact ey results79 ⟨o,u,q.s⟩

theorem ok_laws_eqEntryS {q0:List GEntry}{q1:List GEntry}{r:Bool}(hS:SH w K [] w K [])(k:SliceAt tGEntry K A a b q0)(x:SliceAt tGEntry K B c d q1)(hm:M.laws_eqEntryS F q0 q1=some r):
  Calls prog 40 #[V3 A a b,V3 B c d] w (R_b w K r):=by
 rw [M.laws_eqEntryS] at hm
 refine ci func40 u ntmps40 (sr (lv (r_f u) (nsr (mv u (lv (rv_len underlying39 u k) (mv u (lv (rv_len underlying39 u x) (lv (rv_neq u u) (nq ?_)))))))))
 refine wc_cond u (fun l=>?_) (fun l=>?_)
 ·have m:=cond_t l hm
  refine sr (lv (r_f u) (nq (rr ?_)))
  cases oi m
  exact ey results40 ⟨K,u,hS⟩
 have m:=cond_f l hm
 refine wc_skip (qs (sr (lv (r_0 u) (nq ?_))))
 obtain⟨R,S,i⟩:=ob m
 refine wc_cutg (IE R w K [] K [] []) ?_ ?_
 ·refine wc_block ?_
  obtain⟨aI,T,y⟩:=ob S
  refine qw (fun (o:Int)=>IW w K [] K [(0,V3 A a b),(1,V3 B c d),(5,V6 o)] [] (rng64 o)) T ⟨K,u,hS,kr,d_0⟩ ?_
  rintro o _ aJ aK U C ⟨V,rfl,D,f,aL⟩
  refine wc_seq (sr (mv u (mv u (lv (rv_len underlying39 u (k.mono f)) (lv (rv_lss u u) (nq (wcc U u (fun W q=>?_) (fun W q=>?_))))))))
  ·refine wc_skip (qs (wc_block (wc_seq (wc_quiet mixed (by kernel_rfl) D (km u (km u ?_))))))
   obtain⟨G,X,Y⟩:=ob q
   refine ki underlying39 tf114 (k.mono f) X fun aa ab aM ac ad=>?_
   obtain⟨ae,af,ag,rfl,ah,ai,aj⟩:=ac
   have ak:AtK _ aa ab [sv G.Field,sv G.Term,V3 ae af ag]:=ad
   refine kh (rq_loadS tf114 u ak u) (km u (km u ?_))
   obtain⟨H,al,am⟩:=ob Y
   refine ki underlying39 tf114 (x.mono f) al fun an ao aN ap aq=>?_
   obtain⟨ar,au,aw,rfl,ax,ay,az⟩:=ap
   have aA:AtK _ an ao [sv H.Field,sv H.Term,V3 ar au aw]:=aq
   refine kh (rq_loadS tf114 u aA u) ?_
   obtain⟨aO,aB,aC⟩:=ob am
   refine kc co79 (fun _ _ aD I=>(ok_laws_eqEntry F) aD.enter0 ah ai (aj.mono I) ax ay (az.mono I) aB) (kv (rv_not u) (wq_nil ?_))
   rintro aP ⟨J,O,aE⟩
   refine qe_seq (wcc aC u (fun aF s=>?_) (fun aF s=>?_))
   ·refine sr (lv (r_f u) (nq (wc_ret (qe_block_ret (qe_then_ret (qe_then_ret ?_))))))
    cases oi s
    cases C _ u
    refine qe_block_ret (qe_then_ret ?_)
    cases oi y
    refine qe_then_ret ?_
    cases oi i
    exact ey results40 ⟨J,u,O⟩
   refine wc_skip (qe_block (qe_seq (wc_region (mv u (lv (rv_add u u) (av u (wl_nil ?_)))))))
   cases oi s
   exact qd ⟨_,u,J,u,O,(f.trans aE),(w64_rng _)⟩
  refine wc_exit (qe_then_exit (qe_then_exit ?_))
  cases oi q
  cases C _ u
  refine qe_block_eq ?_
  cases oi y
  exact qe_mid' ⟨_,V,u,u,D,f⟩ trivial
 rintro _ aQ ⟨aR,aG,rfl,rfl,aH,aS⟩
 have i:=elim_l i
 refine qr (lv (r_t u) (nq (wc_ret ?_)))
 cases oi i
 exact ey results40 ⟨aG,u,aH⟩
end Go.Proofs.YtfiahfncijjliaaGreatDoor
